/-
  Chapters 8 to 10 at the top: a course, by names.
-/
import Derived.Test.YtjfgbdmdnejhdaaFitJ
set_option linter.unusedSimpArgs false
set_option linter.unusedVariables false
namespace Go.Proofs.Ytjfgbdmdnejhdaa
open Go.RowKit Go.Vm
set_option maxRecDepth 100000

/- (boule/slice.saw).course$1 · slots 56 · names 0:yield 4:yield 5:m 6:i 7:c 8:room · results [] -/
def ir68_r0 : IC := .reg [⟨some 9, none, false, .lda 11 (.t 1)⟩,
  ⟨some 10, none, false, .call (.f 20) [(.t 9)]⟩,
  ⟨some 5, none, false, .mv (.t 10)⟩] (some [0, 1, 2, 3, 5])
def ir68_r1 : IC := .reg [⟨some 11, none, false, .mv (.t 5)⟩,
  ⟨some 12, none, false, .mv (.k (.int .i64 0))⟩] (some [0, 1, 2, 3, 5, 11, 12])
def ir68_r2 : IC := .reg [⟨some 13, none, false, .cmp .lss (.t 12) (.t 11)⟩] (some [0, 1, 2, 3, 5, 11, 12, 13])
def ir68_1 : IC := .cond (.t 13) .skip (.exit 0)
def ir68_r3 : IC := .reg [⟨some 14, none, false, .mv (.t 12)⟩,
  ⟨some 6, none, false, .mv (.t 14)⟩] (some [0, 1, 2, 3, 5, 6, 11, 12])
def ir68_r4 : IC := .draw [(⟨some 15, none, false, .ldc (.t 2)⟩, false, 0, 1),
  (⟨some 16, none, false, .mv (.t 6)⟩, false, 0, 0),
  (⟨some 17, none, false, .call (.t 15) [(.t 16)]⟩, false, 3, 1),
  (⟨some 18, none, false, .fad 5 (.t 1)⟩, false, 0, 0),
  (⟨some 19, none, false, .fad 0 (.t 18)⟩, false, 8, 0),
  (⟨some 20, none, false, .ldc (.t 19)⟩, false, 24, 4),
  (⟨some 7, none, false, .alloc [(.int .i64 0), (.int .i64 0)]⟩, false, 0, 28),
  (⟨none, none, false, .st 2 (.t 7) (.t 17)⟩, true, 71, 19478),
  (⟨some 8, none, false, .mv (.t 20)⟩, false, 255, 0)] (some [0, 1, 2, 3, 5, 6, 7, 8, 11, 12])
def ir68_r5 : IC := .reg [⟨some 21, none, false, .mv (.t 6)⟩,
  ⟨some 22, none, false, .mv (.t 5)⟩,
  ⟨some 23, none, false, .ar .sub (.t 22) (.k (.int .i64 1))⟩,
  ⟨some 24, none, false, .cmp .eql (.t 21) (.t 23)⟩] (some [0, 1, 2, 3, 5, 6, 7, 8, 11, 12, 24])
def ir68_r6 : IC := .reg [⟨some 25, none, false, .fad 10 (.t 1)⟩,
  ⟨some 26, none, false, .ldc (.t 25)⟩,
  ⟨some 27, none, false, .fad 5 (.t 1)⟩,
  ⟨some 28, none, false, .fad 2 (.t 27)⟩,
  ⟨some 29, none, false, .ldc (.t 28)⟩,
  ⟨some 30, none, false, .ar .sub (.t 26) (.t 29)⟩,
  ⟨some 31, none, false, .mv (.t 6)⟩,
  ⟨some 32, none, false, .fad 5 (.t 1)⟩,
  ⟨some 33, none, false, .fad 0 (.t 32)⟩,
  ⟨some 34, none, false, .ldc (.t 33)⟩,
  ⟨some 35, none, false, .ar .mul (.t 31) (.t 34)⟩,
  ⟨some 36, none, false, .ar .sub (.t 30) (.t 35)⟩,
  ⟨some 8, none, false, .mv (.t 36)⟩] (some [0, 1, 2, 3, 5, 7, 8, 11, 12])
def ir68_2 : IC := .cond (.t 24) ir68_r6 .skip
def ir68_3 : IC := .seq ir68_r5 ir68_2
def ir68_r7 : IC := .reg [⟨some 37, none, false, .mv (.t 0)⟩,
  ⟨some 38, none, false, .ldc (.t 3)⟩,
  ⟨some 39, none, false, .ldc (.t 3)⟩,
  ⟨some 40, none, false, .fad 1 (.t 7)⟩,
  ⟨some 41, none, false, .ldc (.t 40)⟩,
  ⟨some 42, none, false, .ar .add (.t 39) (.t 41)⟩,
  ⟨some 43, none, false, .mv (.t 8)⟩,
  ⟨some 44, none, false, .mm true [(.t 42), (.t 43)]⟩,
  ⟨some 45, none, false, .call (.t 37) [(.t 38), (.t 44)]⟩,
  ⟨some 46, none, false, .not (.t 45)⟩] (some [0, 1, 2, 3, 5, 7, 11, 12, 46])
def ir68_4 : IC := .cond (.t 46) .ret .skip
def ir68_5 : IC := .seq ir68_r7 ir68_4
def ir68_r8 : IC := .reg [⟨some 47, none, false, .ldc (.t 3)⟩,
  ⟨some 48, none, false, .fad 0 (.t 7)⟩,
  ⟨some 49, none, false, .ldc (.t 48)⟩,
  ⟨some 50, none, false, .ar .sub (.t 47) (.t 49)⟩,
  ⟨some 51, none, false, .mm false [(.k (.int .i64 0)), (.t 50)]⟩,
  ⟨none, none, false, .st 1 (.t 3) (.t 51)⟩] (some [0, 1, 2, 3, 5, 11, 12])
def ir68_6 : IC := .seq ir68_5 ir68_r8
def ir68_7 : IC := .seq ir68_3 ir68_6
def ir68_8 : IC := .seq ir68_r4 ir68_7
def ir68_9 : IC := .seq ir68_r3 ir68_8
def ir68_10 : IC := .block 1 ir68_9
def ir68_r9 : IC := .reg [⟨some 52, none, false, .ar .add (.t 12) (.k (.int .i64 1))⟩,
  ⟨some 12, none, false, .mv (.t 52)⟩] (some [0, 1, 2, 3, 5, 11, 12])
def ir68_11 : IC := .seq ir68_10 ir68_r9
def ir68_12 : IC := .seq ir68_1 ir68_11
def ir68_13 : IC := .seq ir68_r2 ir68_12
def ir68_14 : IC := .loop ir68_13
def ir68_15 : IC := .block 0 ir68_14
def ir68_16 : IC := .seq ir68_r1 ir68_15
def ir68_r10 : IC := .reg [⟨some 53, none, false, .mv (.t 0)⟩,
  ⟨some 54, none, false, .ldc (.t 3)⟩,
  ⟨some 55, none, false, .call (.t 53) [(.t 54), (.k (.int .i64 (-1)))]⟩] (some [])
def ir68_17 : IC := .seq ir68_16 ir68_r10
def ir68_18 : IC := .seq ir68_r0 ir68_17
def ir68 : IC := ir68_18
theorem fn68 : FnIs Try.prog 68 ir68 56 [] := ⟨Try.f68, Try.f68.body.getD .skip, Try.func68, by kernel_rfl, by kernel_rfl, by kernel_rfl, by kernel_rfl⟩
theorem fr_cF0 (m : Int) {σ : Nat → Nat} {ξ : Nat → Xi} (hσ : ∀ k, k < 13 → σ k = k ∧ ξ k = .same) : ∀ d v, (trOf (cF0 m)).get d = some v → mv σ ξ v = v ∧ okM ξ 17 v := by
  intro d v e
  rw [trOf_get] at e
  have e := lk_mem e
  have h4 := hσ 4 (by omega)
  have h5 := hσ 5 (by omega)
  have h6 := hσ 6 (by omega)
  have h7 := hσ 7 (by omega)
  have h8 := hσ 8 (by omega)
  have h9 := hσ 9 (by omega)
  have h10 := hσ 10 (by omega)
  have h11 := hσ 11 (by omega)
  have h12 := hσ 12 (by omega)
  simp only [List.mem_cons, Prod.mk.injEq, List.not_mem_nil, or_false] at e
  rcases e with ⟨_, rfl⟩ | ⟨_, rfl⟩ | ⟨_, rfl⟩ | ⟨_, rfl⟩ | ⟨_, rfl⟩ | ⟨_, rfl⟩ | ⟨_, rfl⟩ <;> simp [pt, mv, mvF, mvA, mvL, mvS, okM, okMA, okML, okP, okFB, h4, h5, h6, h7, h8, h9, h10, h11, h12]
section
variable (c : Wb) (len d0 dd : Int) (W S : List Int) (n : Nat)
theorem course1_f {px : Array Tmp} {cx cy : Code} (hpx : px.toList = [32, 33]) (hcx : rC Try.prog 74 cx = some ir44_1.er) (hcy : rC Try.prog 74 cy = some ir44_12.er) (V : Vd c len) (C : Co c len d0 W S) (hn : usF c len = n) :
    Fc Try.prog 68 [.func (.yield 14) #[] #[], pt 10, pt 12, pt 11] (Hp 4 (cH c len dd W S n (usF c len) (.slice none 0 0) (.slice none 0 0) (min c.st len) d0 0 (restF c len d0 W S 0) d0 (cLo (usF c len) px cx cy .ready none))) (packV [])
      (Hp 4 (cH c len dd W S n (usF c len) (sO 15 (SF c len d0 W S n).length) (sO 16 n) (min c.st len) (laF d0 W n) (dF d0 W n) (restF c len d0 W S n) (dF d0 W n) (cLo (usF c len) px cx cy .done (some (.exit 0))) ++ [rowO (SF c len d0 W S n), rowO (KF c len d0 W S n)])) := by
  have hg2 := usF_le V
  have := V.g2
  have := V.p1
  have := V.p2
  have := V.s1
  have := V.s2
  have := V.n1
  have := V.n2
  refine Fc.introX fn68 (by simp) (fun _ => grow_hq (by simp) (by simp)) ?_; simp only [argF]
  refine ITri.seq ?_
  refine ITri.reg pok ?_; simp -implicitDefEqProofs (disch := first | decide | exact of_eq_true (eq_true rfl) | omega | assumption) only [ ↓vcD, vcE, ↓vcG, vcF, evs, evP, evB, intsOf, fillC, Value.cells, pt, Value.oneCell', reduceIte, reduceCtorEq, Nat.reduceEqDiff, Nat.reduceAdd, Nat.reduceMul, Nat.reduceLT, Nat.reduceBEq, Nat.reduceLeDiff, Nat.reduceSub] -- r0 slice.go:59 CALLS .call F46 [%9]
  refine ⟨_, _, used_f c len V (sees0 rfl (of_decide_eq_true rfl)), ?_⟩
  try simp -implicitDefEqProofs (disch := first | decide | exact of_eq_true (eq_true rfl) | omega | assumption) only [ ↓vcD, vcE, ↓vcG, vcF, evs, evP, evB, intsOf, fillC, Value.cells, pt, Value.oneCell', reduceIte, reduceCtorEq, Nat.reduceEqDiff, Nat.reduceAdd, Nat.reduceMul, Nat.reduceLT, Nat.reduceBEq, Nat.reduceLeDiff, Nat.reduceSub]
  rw [hn] at hg2 ⊢
  refine ITri.seq ?_
  refine ITri.seq ?_
  refine ITri.reg pok ?_; simp -implicitDefEqProofs (disch := first | decide | exact of_eq_true (eq_true rfl) | omega | assumption) only [ ↓vcD, vcE, ↓vcG, vcF, evs, evP, evB, intsOf, fillC, Value.cells, pt, Value.oneCell', reduceIte, reduceCtorEq, Nat.reduceEqDiff, Nat.reduceAdd, Nat.reduceMul, Nat.reduceLT, Nat.reduceBEq, Nat.reduceLeDiff, Nat.reduceSub] -- r1 slice.go:60
  have w0 : rows eI (SF c len d0 W S 0) = [] := rfl
  have w1 : rows eI (KF c len d0 W S 0) = [] := rfl
  have w2 : (SF c len d0 W S 0).length = 0 := rfl
  have w3 : dF d0 W 0 = d0 := rfl
  refine ITri.block ?_ -- 0
  refine ITri.loop (fun j : Nat => [(0, .func (.yield 14) #[] #[]), (1, pt 10), (2, pt 12), (3, pt 11), (5, .int .i64 n), (11, .int .i64 n), (12, .int .i64 j)]) (fun _ => []) (fun j => Hp 4 (cH c len dd W S n n (sO 15 (SF c len d0 W S j).length) (sO 16 j) (min c.st len) (laF d0 W j) (beF d0 W j) (restF c len d0 W S j) (dF d0 W j) (cLo n px cx cy .ready none) ++ [rowO (SF c len d0 W S j), rowO (KF c len d0 W S j)])) (fun j => j ≤ n) (fun j => n - j) 0 (by omega) (Wk.gc [0, 1, 2, 3, 4, 5, 6, 7, 8, 9, 10, 11, 12, 13, 14, 15, 16] [(15, .nil), (16, .nil)] (of_decide_eq_true rfl) (of_decide_eq_true rfl) rfl rfl (of_decide_eq_true rfl) rfl rfl (by repeat (first | exact xiOK_nil | refine xiOK_cons (by first | trivial | exact roomOK _ (by decide)) ?_)) rfl (by simp -implicitDefEqProofs (disch := first | decide | exact of_eq_true (eq_true rfl) | omega | assumption) only [w0, w1, w2, w3, laF, beF, if_true, mvF, okFB, fB, mvA, okMA, objOK, sgL, xiL, objAt, nilO, OM, mvL, mv, mvS, okS, okP, mvL_rows, okML, okM, okML_rows, List.getElem?_cons_zero, Option.getD_some, implies_true, imp_self, ne_eq, and_self, true_or, or_true, Nat.zero_mul, Nat.sub_self, openB_self, ↓vcD, vcE, ↓vcG, vcF, evs, evP, evB, intsOf, fillC, Value.cells, pt, Value.oneCell', reduceIte, reduceCtorEq, Nat.reduceEqDiff, Nat.reduceAdd, Nat.reduceMul, Nat.reduceLT, Nat.reduceBEq, Nat.reduceLeDiff, Nat.reduceSub]; exact fr_cF0 _ (fun k hk => ⟨by revert k; decide, (if_neg (by omega)).trans (if_neg (by omega))⟩)) (by simp -implicitDefEqProofs (disch := first | decide | exact of_eq_true (eq_true rfl) | omega | assumption) only [w0, w1, w2, w3, laF, beF, if_true, mvF, okFB, fB, mvA, okMA, valOK, sgL, xiL, mv, mvA, mvL, mvS, okS, okP, okM, okMA, okML, Option.getD_some, implies_true, and_self, true_or, or_true, Int.natCast_add, Int.cast_ofNat_Int, Nat.zero_mul, Nat.sub_self, openB_self, ↓vcD, vcE, ↓vcG, vcF, evs, evP, evB, intsOf, fillC, Value.cells, pt, Value.oneCell', reduceIte, reduceCtorEq, Nat.reduceEqDiff, Nat.reduceAdd, Nat.reduceMul, Nat.reduceLT, Nat.reduceBEq, Nat.reduceLeDiff, Nat.reduceSub]) (fun _ h => by cases h) ⟨rfl, fun _ h => by cases h⟩) fun j hj => ?_
  refine ITri.seq ?_
  refine ITri.reg pok ?_; simp -implicitDefEqProofs (disch := first | decide | exact of_eq_true (eq_true rfl) | omega | assumption) only [ ↓vcD, vcE, ↓vcG, vcF, evs, evP, evB, intsOf, fillC, Value.cells, pt, Value.oneCell', reduceIte, reduceCtorEq, Nat.reduceEqDiff, Nat.reduceAdd, Nat.reduceMul, Nat.reduceLT, Nat.reduceBEq, Nat.reduceLeDiff, Nat.reduceSub] -- r2 slice.go:60
  refine ITri.seq ?_
  refine ITri.condD (by rfl) (fun h2 => ?_) (fun h2 => ?_) -- %13
  · have hjn : j < usF c len := by omega
    have hlt := (usF_iff V j).1 hjn
    have hb := kfF_bd V C hjn
    have hd := dF_bd V C j (by omega)
    have hrm := room_bd V hjn
    have hd3 := V.d3
    have hwj := C.w _ (nth_mem (show j < W.length by rw [C.wl]; omega))
    have hw1 := V.w1
    have hw3 := V.w3
    have hdn : dF d0 W (j + 1) = max 0 (dF d0 W j - nth W j) := rfl
    have hkf : kfF c len d0 W S j = min (dF d0 W j + nth S j) (roomF c len j) := rfl
    refine ITri.skip ?_; simp only [SeqQ_normal, BlkQ_normal]
    refine ITri.seq ?_
    refine ITri.block ?_ -- 1
    refine ITri.seq ?_
    refine ITri.reg pok ?_; simp -implicitDefEqProofs (disch := first | decide | exact of_eq_true (eq_true rfl) | omega | assumption) only [ ↓vcD, vcE, ↓vcG, vcF, evs, evP, evB, intsOf, fillC, Value.cells, pt, Value.oneCell', reduceIte, reduceCtorEq, Nat.reduceEqDiff, Nat.reduceAdd, Nat.reduceMul, Nat.reduceLT, Nat.reduceBEq, Nat.reduceLeDiff, Nat.reduceSub] -- r3 slice.go:60
    refine ITri.seq ?_
    refine ITri.draw pok ?_; simp -implicitDefEqProofs (disch := first | decide | exact of_eq_true (eq_true rfl) | omega | assumption) only [ ↓vcD, vcE, ↓vcG, vcF, evs, evP, evB, intsOf, fillC, Value.cells, pt, Value.oneCell', reduceIte, reduceCtorEq, Nat.reduceEqDiff, Nat.reduceAdd, Nat.reduceMul, Nat.reduceLT, Nat.reduceBEq, Nat.reduceLeDiff, Nat.reduceSub] -- r4 slice.go:61 CALLS .call %15 [%16]
    refine ⟨_, _, choice_f (n := n) (by rw [C.wl]; exact hn) (by rw [C.sl]; exact hn) (by omega) (by omega) (sees0 rfl (of_decide_eq_true rfl)) (get_hq rfl rfl) (get_hq rfl rfl) (get_hq rfl rfl), ?_⟩
    try simp -implicitDefEqProofs (disch := first | decide | exact of_eq_true (eq_true rfl) | omega | assumption) only [ ↓vcD, vcE, ↓vcG, vcF, evs, evP, evB, intsOf, fillC, Value.cells, pt, Value.oneCell', reduceIte, reduceCtorEq, Nat.reduceEqDiff, Nat.reduceAdd, Nat.reduceMul, Nat.reduceLT, Nat.reduceBEq, Nat.reduceLeDiff, Nat.reduceSub]
    have Y := fun x => cut_yield1 c len d0 dd W S n hpx hcx hcy V C j hjn x (laF d0 W j) (beF d0 W j)
    rw [hn] at Y
    refine ITri.seq ?_
    refine ITri.seq ?_
    refine ITri.reg pok ?_; simp -implicitDefEqProofs (disch := first | decide | exact of_eq_true (eq_true rfl) | omega | assumption) only [ ↓vcD, vcE, ↓vcG, vcF, evs, evP, evB, intsOf, fillC, Value.cells, pt, Value.oneCell', reduceIte, reduceCtorEq, Nat.reduceEqDiff, Nat.reduceAdd, Nat.reduceMul, Nat.reduceLT, Nat.reduceBEq, Nat.reduceLeDiff, Nat.reduceSub] -- r5 slice.go:62
    refine ITri.cut (fun _ : Unit => [(0, .func (.yield 14) #[] #[]), (1, pt 10), (2, pt 12), (3, pt 11), (5, .int .i64 n), (7, pt 17), (8, .int .i64 (roomF c len j)), (11, .int .i64 n), (12, .int .i64 j)]) (fun _ => []) (fun _ => Hp 4 (cH c len dd W S n n (sO 15 (SF c len d0 W S j).length) (sO 16 j) (min c.st len) (laF d0 W j) (beF d0 W j) (restF c len d0 W S j) (dF d0 W j) (cLo n px cx cy .ready none) ++ [rowO (SF c len d0 W S j), rowO (KF c len d0 W S j), some (.cells ⟨[.int .i64 (nth W j), .int .i64 (nth S j)], 1, false⟩)])) (fun _ => True) ?_ (fun _ _ => ?_)
    · refine ITri.condD (by rfl) (fun h3 => ?_) (fun h3 => ?_) -- %24
      · have hro : roomF c len j = len - c.st - j * c.p := by unfold roomF; rw [if_pos (by omega)]
        rw [hro]
        refine ITri.reg pok ?_; simp -implicitDefEqProofs (disch := first | decide | exact of_eq_true (eq_true rfl) | omega | assumption) only [ ↓vcD, vcE, ↓vcG, vcF, evs, evP, evB, intsOf, fillC, Value.cells, pt, Value.oneCell', reduceIte, reduceCtorEq, Nat.reduceEqDiff, Nat.reduceAdd, Nat.reduceMul, Nat.reduceLT, Nat.reduceBEq, Nat.reduceLeDiff, Nat.reduceSub] -- r6 slice.go:63
        exact CutQ.mk () trivial (Wk.sub ⟨rfl, rfl, rfl, rfl, rfl, rfl, rfl, rfl, rfl, trivial⟩)
      have hro : roomF c len j = c.p := by unfold roomF; rw [if_neg (by omega)]
      rw [hro]
      refine ITri.skip ?_
      exact CutQ.mk () trivial (Wk.sub ⟨rfl, rfl, rfl, rfl, rfl, rfl, rfl, rfl, rfl, trivial⟩)
    refine ITri.seq ?_
    refine ITri.seq ?_
    refine ITri.reg pok ?_; simp -implicitDefEqProofs (disch := first | decide | exact of_eq_true (eq_true rfl) | omega | assumption) only [← hkf,  ↓vcD, vcE, ↓vcG, vcF, evs, evP, evB, intsOf, fillC, Value.cells, pt, Value.oneCell', reduceIte, reduceCtorEq, Nat.reduceEqDiff, Nat.reduceAdd, Nat.reduceMul, Nat.reduceLT, Nat.reduceBEq, Nat.reduceLeDiff, Nat.reduceSub] -- r7 slice.go:65 CALLS .call %37 [%38, %44]
    have Y := Y (some (.cells ⟨[.int .i64 (nth W j), .int .i64 (nth S j)], 1, false⟩))
    have hj1 : ((j : Int) + 1) = ((j + 1 : Nat) : Int) := by omega
    have hla : laF d0 W (j + 1) = dF d0 W j := rfl
    have hbe : beF d0 W (j + 1) = dF d0 W j := rfl
    by_cases hlt2 : j + 1 < n
    · simp only [hlt2, if_true] at Y
      refine ⟨rfl, _, _, Y, ?_⟩
      try simp -implicitDefEqProofs (disch := first | decide | exact of_eq_true (eq_true rfl) | omega | assumption) only [ ↓vcD, vcE, ↓vcG, vcF, evs, evP, evB, intsOf, fillC, Value.cells, pt, Value.oneCell', reduceIte, reduceCtorEq, Nat.reduceEqDiff, Nat.reduceAdd, Nat.reduceMul, Nat.reduceLT, Nat.reduceBEq, Nat.reduceLeDiff, Nat.reduceSub]
      refine ITri.cond (v := false) rfl (fun h => by cases h) (fun _ => ?_); refine ITri.skip ?_; simp only [SeqQ_normal, BlkQ_normal]
      refine ITri.reg pok ?_; simp -implicitDefEqProofs (disch := first | decide | exact of_eq_true (eq_true rfl) | omega | assumption) only [← hdn,  ↓vcD, vcE, ↓vcG, vcF, evs, evP, evB, intsOf, fillC, Value.cells, pt, Value.oneCell', reduceIte, reduceCtorEq, Nat.reduceEqDiff, Nat.reduceAdd, Nat.reduceMul, Nat.reduceLT, Nat.reduceBEq, Nat.reduceLeDiff, Nat.reduceSub] -- r8 slice.go:68
      refine ITri.reg pok ?_; simp -implicitDefEqProofs (disch := first | decide | exact of_eq_true (eq_true rfl) | omega | assumption) only [hj1,  ↓vcD, vcE, ↓vcG, vcF, evs, evP, evB, intsOf, fillC, Value.cells, pt, Value.oneCell', reduceIte, reduceCtorEq, Nat.reduceEqDiff, Nat.reduceAdd, Nat.reduceMul, Nat.reduceLT, Nat.reduceBEq, Nat.reduceLeDiff, Nat.reduceSub] -- r9 slice.go:60
      exact LoopQ.next (j + 1) (by omega) (by omega) (Wk.gc [0, 1, 2, 3, 4, 5, 6, 7, 8, 9, 10, 11, 12, 13, 14, 21, 19] [] (of_decide_eq_true rfl) (of_decide_eq_true rfl) rfl rfl (of_decide_eq_true rfl) rfl rfl (by repeat (first | exact xiOK_nil | refine xiOK_cons (by first | trivial | exact roomOK _ (by decide)) ?_)) rfl (by simp -implicitDefEqProofs (disch := first | decide | exact of_eq_true (eq_true rfl) | omega | assumption) only [hla, hbe, mvF, okFB, fB, mvA, okMA, objOK, sgL, xiL, objAt, nilO, OM, mvL, mv, mvS, okS, okP, mvL_rows, okML, okM, okML_rows, List.getElem?_cons_zero, Option.getD_some, implies_true, imp_self, ne_eq, and_self, true_or, or_true, Nat.zero_mul, Nat.sub_self, openB_self, ↓vcD, vcE, ↓vcG, vcF, evs, evP, evB, intsOf, fillC, Value.cells, pt, Value.oneCell', reduceIte, reduceCtorEq, Nat.reduceEqDiff, Nat.reduceAdd, Nat.reduceMul, Nat.reduceLT, Nat.reduceBEq, Nat.reduceLeDiff, Nat.reduceSub]; exact fr_cF0 _ (fun k hk => ⟨by revert k; decide, rfl⟩)) (by simp -implicitDefEqProofs (disch := first | decide | exact of_eq_true (eq_true rfl) | omega | assumption) only [hla, hbe, mvF, okFB, fB, mvA, okMA, valOK, sgL, xiL, mv, mvA, mvL, mvS, okS, okP, okM, okMA, okML, Option.getD_some, implies_true, and_self, true_or, or_true, Int.natCast_add, Int.cast_ofNat_Int, Nat.zero_mul, Nat.sub_self, openB_self, ↓vcD, vcE, ↓vcG, vcF, evs, evP, evB, intsOf, fillC, Value.cells, pt, Value.oneCell', reduceIte, reduceCtorEq, Nat.reduceEqDiff, Nat.reduceAdd, Nat.reduceMul, Nat.reduceLT, Nat.reduceBEq, Nat.reduceLeDiff, Nat.reduceSub]) (fun _ h => by cases h) ⟨rfl, fun _ h => by cases h⟩)
    · simp only [hlt2, if_false] at Y
      refine ⟨rfl, _, _, Y, ?_⟩
      try simp -implicitDefEqProofs (disch := first | decide | exact of_eq_true (eq_true rfl) | omega | assumption) only [ ↓vcD, vcE, ↓vcG, vcF, evs, evP, evB, intsOf, fillC, Value.cells, pt, Value.oneCell', reduceIte, reduceCtorEq, Nat.reduceEqDiff, Nat.reduceAdd, Nat.reduceMul, Nat.reduceLT, Nat.reduceBEq, Nat.reduceLeDiff, Nat.reduceSub]
      refine ITri.cond (v := false) rfl (fun h => by cases h) (fun _ => ?_); refine ITri.skip ?_; simp only [SeqQ_normal, BlkQ_normal]
      refine ITri.reg pok ?_; simp -implicitDefEqProofs (disch := first | decide | exact of_eq_true (eq_true rfl) | omega | assumption) only [← hdn,  ↓vcD, vcE, ↓vcG, vcF, evs, evP, evB, intsOf, fillC, Value.cells, pt, Value.oneCell', reduceIte, reduceCtorEq, Nat.reduceEqDiff, Nat.reduceAdd, Nat.reduceMul, Nat.reduceLT, Nat.reduceBEq, Nat.reduceLeDiff, Nat.reduceSub] -- r8 slice.go:68
      refine ITri.reg pok ?_; simp -implicitDefEqProofs (disch := first | decide | exact of_eq_true (eq_true rfl) | omega | assumption) only [hj1,  ↓vcD, vcE, ↓vcG, vcF, evs, evP, evB, intsOf, fillC, Value.cells, pt, Value.oneCell', reduceIte, reduceCtorEq, Nat.reduceEqDiff, Nat.reduceAdd, Nat.reduceMul, Nat.reduceLT, Nat.reduceBEq, Nat.reduceLeDiff, Nat.reduceSub] -- r9 slice.go:60
      exact LoopQ.next (j + 1) (by omega) (by omega) (Wk.gc [0, 1, 2, 3, 4, 5, 6, 7, 8, 9, 10, 11, 12, 13, 14, 15, 19] [] (of_decide_eq_true rfl) (of_decide_eq_true rfl) rfl rfl (of_decide_eq_true rfl) rfl rfl (by repeat (first | exact xiOK_nil | refine xiOK_cons (by first | trivial | exact roomOK _ (by decide)) ?_)) rfl (by simp -implicitDefEqProofs (disch := first | decide | exact of_eq_true (eq_true rfl) | omega | assumption) only [hla, hbe, mvF, okFB, fB, mvA, okMA, objOK, sgL, xiL, objAt, nilO, OM, mvL, mv, mvS, okS, okP, mvL_rows, okML, okM, okML_rows, List.getElem?_cons_zero, Option.getD_some, implies_true, imp_self, ne_eq, and_self, true_or, or_true, Nat.zero_mul, Nat.sub_self, openB_self, ↓vcD, vcE, ↓vcG, vcF, evs, evP, evB, intsOf, fillC, Value.cells, pt, Value.oneCell', reduceIte, reduceCtorEq, Nat.reduceEqDiff, Nat.reduceAdd, Nat.reduceMul, Nat.reduceLT, Nat.reduceBEq, Nat.reduceLeDiff, Nat.reduceSub]; exact fr_cF0 _ (fun k hk => ⟨by revert k; decide, rfl⟩)) (by simp -implicitDefEqProofs (disch := first | decide | exact of_eq_true (eq_true rfl) | omega | assumption) only [hla, hbe, mvF, okFB, fB, mvA, okMA, valOK, sgL, xiL, mv, mvA, mvL, mvS, okS, okP, okM, okMA, okML, Option.getD_some, implies_true, and_self, true_or, or_true, Int.natCast_add, Int.cast_ofNat_Int, Nat.zero_mul, Nat.sub_self, openB_self, ↓vcD, vcE, ↓vcG, vcF, evs, evP, evB, intsOf, fillC, Value.cells, pt, Value.oneCell', reduceIte, reduceCtorEq, Nat.reduceEqDiff, Nat.reduceAdd, Nat.reduceMul, Nat.reduceLT, Nat.reduceBEq, Nat.reduceLeDiff, Nat.reduceSub]) (fun _ h => by cases h) ⟨rfl, fun _ h => by cases h⟩)
  refine ITri.exit ?_; try simp -implicitDefEqProofs (disch := first | decide | exact of_eq_true (eq_true rfl) | omega | assumption) only [ ↓vcD, vcE, ↓vcG, vcF, evs, evP, evB, intsOf, fillC, Value.cells, pt, Value.oneCell', reduceIte, reduceCtorEq, Nat.reduceEqDiff, Nat.reduceAdd, Nat.reduceMul, Nat.reduceLT, Nat.reduceBEq, Nat.reduceLeDiff, Nat.reduceSub]
  obtain rfl : n = j := by omega
  refine ITri.reg pok ?_; simp -implicitDefEqProofs (disch := first | decide | exact of_eq_true (eq_true rfl) | omega | assumption) only [ ↓vcD, vcE, ↓vcG, vcF, evs, evP, evB, intsOf, fillC, Value.cells, pt, Value.oneCell', reduceIte, reduceCtorEq, Nat.reduceEqDiff, Nat.reduceAdd, Nat.reduceMul, Nat.reduceLT, Nat.reduceBEq, Nat.reduceLeDiff, Nat.reduceSub] -- r10
  refine ⟨rfl, _, _, cut_yield2 c len dd W S n hpx hcx hcy _ _ _ _ _ _ _ _ _ _, ?_⟩
  try simp -implicitDefEqProofs (disch := first | decide | exact of_eq_true (eq_true rfl) | omega | assumption) only [ ↓vcD, vcE, ↓vcG, vcF, evs, evP, evB, intsOf, fillC, Value.cells, pt, Value.oneCell', reduceIte, reduceCtorEq, Nat.reduceEqDiff, Nat.reduceAdd, Nat.reduceMul, Nat.reduceLT, Nat.reduceBEq, Nat.reduceLeDiff, Nat.reduceSub]
  exact EndX.mk (by simp) rfl rfl rfl
end
end Go.Proofs.Ytjfgbdmdnejhdaa
