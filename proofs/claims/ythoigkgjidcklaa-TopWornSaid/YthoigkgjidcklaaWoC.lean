/-
  Chapter 11, by names: gather of one lot.
-/
import Derived.Test.YthoigkgjidcklaaWoB
set_option linter.unusedSimpArgs false
set_option linter.unusedVariables false
namespace Go.Vm
open Go Go.RowKit
/-- A part of a slice whose bounds are constants. -/
theorem gen_slC {P : Program} {w : Bool} {t : TypeId} {s : Nat} {l : Fr} {h : AH} {K : Value → AH → Prop} {x v : Value} {j : Int} (hl : lk l s = some x) (hv : aSlice P t x (some (.int .i64 j)) none none = some v) (q : K v h) :
    iStep P w (.gen (.slice t (.tmp s) (some (.const (.int .i64 j))) none none)) l h K := by
  refine ⟨_, _, ?_, q⟩
  have e1 : aEnv (trOf l) (.tmp s) = some x := by simp only [aEnv, trOf_get, hl]
  have e2 : aOptV (aEnv (trOf l)) (some (.const (.int .i64 j))) = some (some (.int .i64 j)) := rfl
  have e3 : aOptV (aEnv (trOf l)) none = some none := rfl
  simp only [aOp, e1, e2, e3, hv]
end Go.Vm
namespace Go.Proofs.Ythoigkgjidcklaa
open Go.RowKit Go.Vm
set_option maxRecDepth 100000
/- (*boule/shop.Shop).gather · slots 51 · names 0:s 1:numbers 2:s 3:numbers 4:lots 5:e 6:i 7:n 8:_ 9:n 10:l 11:e · results [4, 5] -/
def ir63_r0 : IC := .reg [⟨some 4, none, false, .mv (.k (.slice none 0 0))⟩,
  ⟨some 5, none, false, .mv (.k (.int .i64 0))⟩] (some [0, 1, 4])
def ir63_r1 : IC := .reg [⟨some 12, none, false, .mv (.t 1)⟩,
  ⟨some 13, none, false, .len (.t 12)⟩,
  ⟨some 14, none, false, .cmp .eql (.t 13) (.k (.int .i64 0))⟩] (some [0, 1, 4, 14])
def ir63_r2 : IC := .reg [⟨some 4, none, false, .mv (.k (.slice none 0 0))⟩,
  ⟨some 5, none, false, .mv (.k (.int .i64 2))⟩] (some [4, 5])
def ir63_1 : IC := .seq ir63_r2 .ret
def ir63_2 : IC := .cond (.t 14) ir63_1 .skip
def ir63_3 : IC := .seq ir63_r1 ir63_2
def ir63_r3 : IC := .reg [⟨some 15, none, false, .mv (.t 1)⟩,
  ⟨some 16, none, false, .gen (.slice 41 (.tmp 15) (some (.const (.int .i64 1))) none none)⟩,
  ⟨some 17, none, false, .len (.t 16)⟩,
  ⟨some 18, none, false, .mv (.k (.int .i64 0))⟩] (some [0, 1, 4, 16, 17, 18])
def ir63_r4 : IC := .reg [⟨some 19, none, false, .cmp .lss (.t 18) (.t 17)⟩] (some [0, 1, 4, 16, 17, 18, 19])
def ir63_4 : IC := .cond (.t 19) .skip (.exit 0)
def ir63_r5 : IC := .reg [⟨some 20, none, false, .mv (.t 18)⟩,
  ⟨some 21, none, false, .iad 1 (.t 16) (.t 18)⟩,
  ⟨some 22, none, false, .ldc (.t 21)⟩,
  ⟨some 6, none, false, .mv (.t 20)⟩,
  ⟨some 7, none, false, .mv (.t 22)⟩] (some [0, 1, 4, 6, 7, 16, 17, 18])
def ir63_r6 : IC := .reg [⟨some 23, none, false, .mv (.t 7)⟩,
  ⟨some 24, none, false, .mv (.t 1)⟩,
  ⟨some 25, none, false, .mv (.t 6)⟩,
  ⟨some 26, none, false, .iad 1 (.t 24) (.t 25)⟩,
  ⟨some 27, none, false, .ldc (.t 26)⟩,
  ⟨some 28, none, false, .cmp .leq (.t 23) (.t 27)⟩] (some [0, 1, 4, 16, 17, 18, 28])
def ir63_r7 : IC := .reg [⟨some 4, none, false, .mv (.k (.slice none 0 0))⟩,
  ⟨some 5, none, false, .mv (.k (.int .i64 2))⟩] (some [4, 5])
def ir63_5 : IC := .seq ir63_r7 .ret
def ir63_6 : IC := .cond (.t 28) ir63_5 .skip
def ir63_7 : IC := .seq ir63_r6 ir63_6
def ir63_8 : IC := .seq ir63_r5 ir63_7
def ir63_9 : IC := .block 1 ir63_8
def ir63_r8 : IC := .reg [⟨some 29, none, false, .ar .add (.t 18) (.k (.int .i64 1))⟩,
  ⟨some 18, none, false, .mv (.t 29)⟩] (some [0, 1, 4, 16, 17, 18])
def ir63_10 : IC := .seq ir63_9 ir63_r8
def ir63_11 : IC := .seq ir63_4 ir63_10
def ir63_12 : IC := .seq ir63_r4 ir63_11
def ir63_13 : IC := .loop ir63_12
def ir63_14 : IC := .block 0 ir63_13
def ir63_15 : IC := .seq ir63_r3 ir63_14
def ir63_r9 : IC := .reg [⟨some 30, none, false, .mv (.t 1)⟩,
  ⟨some 31, none, false, .len (.t 30)⟩,
  ⟨some 32, none, false, .mv (.k (.int .i64 0))⟩] (some [0, 4, 30, 31, 32])
def ir63_r10 : IC := .reg [⟨some 33, none, false, .cmp .lss (.t 32) (.t 31)⟩] (some [0, 4, 30, 31, 32, 33])
def ir63_16 : IC := .cond (.t 33) .skip (.exit 2)
def ir63_r11 : IC := .reg [⟨some 34, none, false, .iad 1 (.t 30) (.t 32)⟩,
  ⟨some 35, none, false, .ldc (.t 34)⟩,
  ⟨some 9, none, false, .mv (.t 35)⟩] (some [0, 4, 9, 30, 31, 32])
def ir63_r12 : IC := .reg [⟨some 37, none, false, .mv (.t 0)⟩,
  ⟨some 38, none, false, .mv (.t 9)⟩,
  ⟨some 39, none, false, .call (.f 50) [(.t 37), (.t 38)]⟩,
  ⟨some 36, none, false, .mv (.t 39)⟩,
  ⟨some 40, none, false, .ext (.t 36) 0⟩,
  ⟨some 41, none, false, .ext (.t 36) 1⟩,
  ⟨some 10, none, false, .mv (.t 40)⟩,
  ⟨some 11, none, false, .mv (.t 41)⟩] (some [0, 4, 10, 11, 30, 31, 32])
def ir63_r13 : IC := .reg [⟨some 42, none, false, .mv (.t 11)⟩,
  ⟨some 43, none, false, .cmp .neq (.t 42) (.k (.int .i64 0))⟩] (some [0, 4, 10, 11, 30, 31, 32, 43])
def ir63_r14 : IC := .reg [⟨some 44, none, false, .mv (.t 11)⟩,
  ⟨some 4, none, false, .mv (.k (.slice none 0 0))⟩,
  ⟨some 5, none, false, .mv (.t 44)⟩] (some [4, 5])
def ir63_17 : IC := .seq ir63_r14 .ret
def ir63_18 : IC := .cond (.t 43) ir63_17 .skip
def ir63_19 : IC := .seq ir63_r13 ir63_18
def ir63_r15 : IC := .reg [⟨some 45, none, false, .mv (.t 4)⟩,
  ⟨some 46, none, false, .mv (.t 10)⟩,
  ⟨some 47, none, false, .bsl 1 1 [(.pointer none)] [(0, (.t 46))]⟩,
  ⟨some 48, none, false, .app 1 8 (.t 45) (.t 47)⟩,
  ⟨some 4, none, false, .mv (.t 48)⟩] (some [0, 4, 30, 31, 32])
def ir63_20 : IC := .seq ir63_19 ir63_r15
def ir63_21 : IC := .seq ir63_r12 ir63_20
def ir63_22 : IC := .seq ir63_r11 ir63_21
def ir63_23 : IC := .block 3 ir63_22
def ir63_r16 : IC := .reg [⟨some 49, none, false, .ar .add (.t 32) (.k (.int .i64 1))⟩,
  ⟨some 32, none, false, .mv (.t 49)⟩] (some [0, 4, 30, 31, 32])
def ir63_24 : IC := .seq ir63_23 ir63_r16
def ir63_25 : IC := .seq ir63_16 ir63_24
def ir63_26 : IC := .seq ir63_r10 ir63_25
def ir63_27 : IC := .loop ir63_26
def ir63_28 : IC := .block 2 ir63_27
def ir63_29 : IC := .seq ir63_r9 ir63_28
def ir63_r17 : IC := .reg [⟨some 50, none, false, .mv (.t 4)⟩,
  ⟨some 4, none, false, .mv (.t 50)⟩,
  ⟨some 5, none, false, .mv (.k (.int .i64 0))⟩] (some [4, 5])
def ir63_30 : IC := .seq ir63_r17 .ret
def ir63_31 : IC := .seq ir63_29 ir63_30
def ir63_32 : IC := .seq ir63_15 ir63_31
def ir63_33 : IC := .seq ir63_3 ir63_32
def ir63_34 : IC := .seq ir63_r0 ir63_33
def ir63 : IC := ir63_34
theorem fn63 : FnIs Try.prog 63 ir63 51 [.tmp 4, .tmp 5] := ⟨Try.f63, Try.f63.body.getD .skip, Try.func63, by kernel_rfl, by kernel_rfl, by kernel_rfl, by kernel_rfl⟩
section
variable {wl s k n c z q z2 z3 nr cr kr nq cq kq nt ct kt nl cl kl kn : Nat} {op op2 op3 : Bool} {now : Int} {L : List (Option AObj)} {cs : List Value}
theorem gather1_f {m : Int} {i : Nat} (h0 : 0 < L.length) (hS : (L[s]?).join = some (cO (shV kr nr cr kq nq cq kt nt ct kl nl cl now) z op)) (hR : (L[kl]?).join = some (cO cs z2 op2)) (hN : (L[kn]?).join = some (cO [.int .i64 m] z3 op3)) (hi : m - 1 = i) (hn : i < nl) (hb : nl ≤ 1000000) (hc : cs[i]? = some (pt q)) :
    Fc Try.prog 63 [pt s, slO kn 1 1] (Hp wl L) (.tuple #[slO (L.length + 1) 1 openB, .int .i64 0]) (Hp wl (L ++ [some (cO [pt q] 1 false), some (cO [pt q] 1 true)])) := by
  have hnn : ∀ a, (notNil (.pointer (some a)) = true) = True := fun a => eq_true rfl
  refine Fc.introX fn63 (by simp) (fun hw => grow_hq (by simp) (List.take_append_of_le_length hw)) ?_; simp only [argF]
  refine ITri.seq ?_
  refine ITri.reg pok ?_; simp -implicitDefEqProofs (disch := first | decide | exact of_eq_true (eq_true rfl) | omega | assumption) only [ ↓vcD, vcE, ↓vcG, vcF, evs, evP, evB, intsOf, fillC, Value.cells, pt, Value.oneCell', reduceIte, reduceCtorEq, Nat.reduceEqDiff, Nat.reduceAdd, Nat.reduceMul, Nat.reduceLT, Nat.reduceBEq, Nat.reduceLeDiff, Nat.reduceSub]
  refine ITri.seq ?_
  refine ITri.seq ?_
  refine ITri.reg pok ?_; simp -implicitDefEqProofs (disch := first | decide | exact of_eq_true (eq_true rfl) | omega | assumption) only [ ↓vcD, vcE, ↓vcG, vcF, evs, evP, evB, intsOf, fillC, Value.cells, pt, Value.oneCell', reduceIte, reduceCtorEq, Nat.reduceEqDiff, Nat.reduceAdd, Nat.reduceMul, Nat.reduceLT, Nat.reduceBEq, Nat.reduceLeDiff, Nat.reduceSub]
  refine ITri.cond (v := false) rfl (fun h => by cases h) (fun _ => ?_); refine ITri.skip ?_; simp only [SeqQ_normal, BlkQ_normal]
  refine ITri.seq ?_
  refine ITri.seq ?_
  refine ITri.reg pok ?_; simp -implicitDefEqProofs (disch := first | decide | exact of_eq_true (eq_true rfl) | omega | assumption) only [ ↓vcD, vcE, ↓vcG, vcF, evs, evP, evB, intsOf, fillC, Value.cells, pt, Value.oneCell', reduceIte, reduceCtorEq, Nat.reduceEqDiff, Nat.reduceAdd, Nat.reduceMul, Nat.reduceLT, Nat.reduceBEq, Nat.reduceLeDiff, Nat.reduceSub] -- r3
  refine gen_slC (v := slO kn 0 0) rfl (by kernel_rfl) ?_
  try simp -implicitDefEqProofs (disch := first | decide | exact of_eq_true (eq_true rfl) | omega | assumption) only [ ↓vcD, vcE, ↓vcG, vcF, evs, evP, evB, intsOf, fillC, Value.cells, pt, Value.oneCell', reduceIte, reduceCtorEq, Nat.reduceEqDiff, Nat.reduceAdd, Nat.reduceMul, Nat.reduceLT, Nat.reduceBEq, Nat.reduceLeDiff, Nat.reduceSub]
  refine ITri.block ?_ -- 0
  refine ITri.loop (fun k : Nat => [(0, pt s), (1, slO kn 1 1), (4, .slice none 0 0), (16, slO kn 0 0), (17, .int .i64 0), (18, .int .i64 0)]) (fun _ => []) (fun k => Hp wl L) (fun _ => True) (fun k => 0) 0 trivial (Wk.sub ⟨rfl, rfl, rfl, rfl, rfl, rfl, trivial⟩) (fun k hk => ?_)
  refine ITri.seq ?_
  refine ITri.reg pok ?_; simp -implicitDefEqProofs (disch := first | decide | exact of_eq_true (eq_true rfl) | omega | assumption) only [ ↓vcD, vcE, ↓vcG, vcF, evs, evP, evB, intsOf, fillC, Value.cells, pt, Value.oneCell', reduceIte, reduceCtorEq, Nat.reduceEqDiff, Nat.reduceAdd, Nat.reduceMul, Nat.reduceLT, Nat.reduceBEq, Nat.reduceLeDiff, Nat.reduceSub] -- r4
  refine ITri.seq ?_
  refine ITri.cond (v := false) rfl (fun h => by cases h) (fun _ => ?_)
  refine ITri.exit ?_; try simp -implicitDefEqProofs (disch := first | decide | exact of_eq_true (eq_true rfl) | omega | assumption) only [ ↓vcD, vcE, ↓vcG, vcF, evs, evP, evB, intsOf, fillC, Value.cells, pt, Value.oneCell', reduceIte, reduceCtorEq, Nat.reduceEqDiff, Nat.reduceAdd, Nat.reduceMul, Nat.reduceLT, Nat.reduceBEq, Nat.reduceLeDiff, Nat.reduceSub]
  refine ITri.seq ?_
  refine ITri.seq ?_
  refine ITri.reg pok ?_; simp -implicitDefEqProofs (disch := first | decide | exact of_eq_true (eq_true rfl) | omega | assumption) only [ ↓vcD, vcE, ↓vcG, vcF, evs, evP, evB, intsOf, fillC, Value.cells, pt, Value.oneCell', reduceIte, reduceCtorEq, Nat.reduceEqDiff, Nat.reduceAdd, Nat.reduceMul, Nat.reduceLT, Nat.reduceBEq, Nat.reduceLeDiff, Nat.reduceSub] -- r9
  refine ITri.block ?_ -- 2
  refine ITri.loop (fun p : Value × Nat × List (Option AObj) => [(0, pt s), (4, p.1), (30, slO kn 1 1), (31, .int .i64 1), (32, .int .i64 p.2.1)]) (fun _ => []) (fun p => Hp wl (L ++ p.2.2)) (fun p => p = (.slice none 0 0, 0, []) ∨ p = (slO (L.length + 1) 1 openB, 1, [some (cO [pt q] 1 false), some (cO [pt q] 1 true)])) (fun p => 1 - p.2.1) (.slice none 0 0, 0, []) (.inl rfl) (by simp only [List.append_nil]; exact Wk.sub ⟨rfl, rfl, rfl, rfl, rfl, trivial⟩) (fun p hp => ?_)
  rcases hp with rfl | rfl
  · simp only [List.append_nil]
    refine ITri.seq ?_
    refine ITri.reg pok ?_; simp -implicitDefEqProofs (disch := first | decide | exact of_eq_true (eq_true rfl) | omega | assumption) only [ ↓vcD, vcE, ↓vcG, vcF, evs, evP, evB, intsOf, fillC, Value.cells, pt, Value.oneCell', reduceIte, reduceCtorEq, Nat.reduceEqDiff, Nat.reduceAdd, Nat.reduceMul, Nat.reduceLT, Nat.reduceBEq, Nat.reduceLeDiff, Nat.reduceSub] -- r10
    refine ITri.seq ?_
    refine ITri.cond (v := true) rfl (fun _ => ?_) (fun h => by cases h)
    refine ITri.skip ?_; simp only [SeqQ_normal, BlkQ_normal]
    refine ITri.seq ?_
    refine ITri.block ?_ -- 3
    refine ITri.seq ?_
    refine ITri.reg pok ?_; simp -implicitDefEqProofs (disch := first | decide | exact of_eq_true (eq_true rfl) | omega | assumption) only [hN,  ↓vcD, vcE, ↓vcG, vcF, evs, evP, evB, intsOf, fillC, Value.cells, pt, Value.oneCell', reduceIte, reduceCtorEq, Nat.reduceEqDiff, Nat.reduceAdd, Nat.reduceMul, Nat.reduceLT, Nat.reduceBEq, Nat.reduceLeDiff, Nat.reduceSub] -- r11
    refine ITri.seq ?_
    refine ITri.reg pok ?_; simp -implicitDefEqProofs (disch := first | decide | exact of_eq_true (eq_true rfl) | omega | assumption) only [ ↓vcD, vcE, ↓vcG, vcF, evs, evP, evB, intsOf, fillC, Value.cells, pt, Value.oneCell', reduceIte, reduceCtorEq, Nat.reduceEqDiff, Nat.reduceAdd, Nat.reduceMul, Nat.reduceLT, Nat.reduceBEq, Nat.reduceLeDiff, Nat.reduceSub] -- r12
    refine ⟨_, _, lot_f h0 hS hR hi hn hb hc, ?_⟩
    try simp -implicitDefEqProofs (disch := first | decide | exact of_eq_true (eq_true rfl) | omega | assumption) only [ ↓vcD, vcE, ↓vcG, vcF, evs, evP, evB, intsOf, fillC, Value.cells, pt, Value.oneCell', reduceIte, reduceCtorEq, Nat.reduceEqDiff, Nat.reduceAdd, Nat.reduceMul, Nat.reduceLT, Nat.reduceBEq, Nat.reduceLeDiff, Nat.reduceSub]
    refine ITri.seq ?_
    refine ITri.seq ?_
    refine ITri.reg pok ?_; simp -implicitDefEqProofs (disch := first | decide | exact of_eq_true (eq_true rfl) | omega | assumption) only [ ↓vcD, vcE, ↓vcG, vcF, evs, evP, evB, intsOf, fillC, Value.cells, pt, Value.oneCell', reduceIte, reduceCtorEq, Nat.reduceEqDiff, Nat.reduceAdd, Nat.reduceMul, Nat.reduceLT, Nat.reduceBEq, Nat.reduceLeDiff, Nat.reduceSub] -- r13
    refine ITri.cond (v := false) rfl (fun h => by cases h) (fun _ => ?_); refine ITri.skip ?_; simp only [SeqQ_normal, BlkQ_normal]
    refine ITri.reg pok ?_; simp -implicitDefEqProofs (disch := first | decide | exact of_eq_true (eq_true rfl) | omega | assumption) only [apd_get, apd_get0, apd_set0, apd_set, List.length_append, List.append_assoc, Nat.add_assoc,  ↓vcD, vcE, ↓vcG, vcF, evs, evP, evB, intsOf, fillC, Value.cells, pt, Value.oneCell', reduceIte, reduceCtorEq, Nat.reduceEqDiff, Nat.reduceAdd, Nat.reduceMul, Nat.reduceLT, Nat.reduceBEq, Nat.reduceLeDiff, Nat.reduceSub] -- r15
    refine ITri.reg pok ?_; simp -implicitDefEqProofs (disch := first | decide | exact of_eq_true (eq_true rfl) | omega | assumption) only [apd_get, apd_get0, apd_set0, apd_set, List.length_append, List.append_assoc, Nat.add_assoc,  ↓vcD, vcE, ↓vcG, vcF, evs, evP, evB, intsOf, fillC, Value.cells, pt, Value.oneCell', reduceIte, reduceCtorEq, Nat.reduceEqDiff, Nat.reduceAdd, Nat.reduceMul, Nat.reduceLT, Nat.reduceBEq, Nat.reduceLeDiff, Nat.reduceSub]
    refine LoopQ.next (slO (L.length + 1) 1 openB, 1, [some (cO [pt q] 1 false), some (cO [pt q] 1 true)]) (.inr rfl) (Nat.lt_succ_self 0) (Wk.sub ⟨rfl, rfl, rfl, rfl, rfl, trivial⟩)
  · refine ITri.seq ?_
    refine ITri.reg pok ?_; simp -implicitDefEqProofs (disch := first | decide | exact of_eq_true (eq_true rfl) | omega | assumption) only [ ↓vcD, vcE, ↓vcG, vcF, evs, evP, evB, intsOf, fillC, Value.cells, pt, Value.oneCell', reduceIte, reduceCtorEq, Nat.reduceEqDiff, Nat.reduceAdd, Nat.reduceMul, Nat.reduceLT, Nat.reduceBEq, Nat.reduceLeDiff, Nat.reduceSub] -- r10
    refine ITri.seq ?_
    refine ITri.cond (v := false) rfl (fun h => by cases h) (fun _ => ?_)
    refine ITri.exit ?_; try simp -implicitDefEqProofs (disch := first | decide | exact of_eq_true (eq_true rfl) | omega | assumption) only [ ↓vcD, vcE, ↓vcG, vcF, evs, evP, evB, intsOf, fillC, Value.cells, pt, Value.oneCell', reduceIte, reduceCtorEq, Nat.reduceEqDiff, Nat.reduceAdd, Nat.reduceMul, Nat.reduceLT, Nat.reduceBEq, Nat.reduceLeDiff, Nat.reduceSub]
    refine ITri.seq ?_
    refine ITri.reg pok ?_; simp -implicitDefEqProofs (disch := first | decide | exact of_eq_true (eq_true rfl) | omega | assumption) only [ ↓vcD, vcE, ↓vcG, vcF, evs, evP, evB, intsOf, fillC, Value.cells, pt, Value.oneCell', reduceIte, reduceCtorEq, Nat.reduceEqDiff, Nat.reduceAdd, Nat.reduceMul, Nat.reduceLT, Nat.reduceBEq, Nat.reduceLeDiff, Nat.reduceSub]
    refine ITri.ret ?_; exact EndX.mk (by simp) (by rfl) (by rfl) (by rfl)
end
end Go.Proofs.Ythoigkgjidcklaa
