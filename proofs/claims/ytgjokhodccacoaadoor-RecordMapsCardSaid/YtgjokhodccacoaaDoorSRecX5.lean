import Derived.Test.YtgjokhodccacoaaDoorSRecX4
set_option linter.unusedSimpArgs false
set_option linter.unusedVariables false
namespace Go.Vm
open Go Go.RowKit
theorem gen_frz {P : Program} {w : Bool} {t d el : TypeId} {s k n c : Nat} {l : Fr} {h : AH} {K : Value → AH → Prop} {b : Blk} (hm : memFrz t d = true) (hm2 : memConv t d = false) (hu : P.underlying t = some (.slice el)) (he : P.underlying el = some (.int .u8)) (hl : lk l s = some (.slice (some ⟨k, 0, none⟩) n c)) (hg : h.get k = some (.cells b)) (hw : h.wlim ≤ k) (ho : b.opn = false) (hc : b.cells.isEmpty = false)
    (q : K (.slice (some ⟨k, 0, none⟩) n c) (h.put k (some (.cells ⟨b.cells, 0, false⟩)))) : iStep P w (.gen (.convert t d (.tmp s))) l h K := by
 refine ⟨_, _, ?_, q⟩
 have e1 : aEnv (trOf l) (.tmp s) = some (.slice (some ⟨k, 0, none⟩) n c) := by simp only [aEnv, trOf_get, hl]
 have e3 : noAddr (.slice (some ⟨k, 0, none⟩) n c) = false := rfl
 simp only [aOp, e1, e3, Bool.false_eq_true, if_false, hm2, aFrz, hu, he, hg]
 rw [if_pos ⟨hm, hw, ho, hc⟩]
end Go.Vm
namespace Go.Proofs.YtgjokhodccacoaaDoor
open Go.RowKit Go.Vm
set_option maxRecDepth 100000
def wrtn (ns : List Int) : List Int := ns.flatMap fun n => groups n.toNat
theorem wrtn_snoc {ns : List Int} {n : Int} : wrtn (ns ++ [n]) = wrtn ns ++ groups n.toNat := by unfold wrtn; simp
def isN (ns : List Int) : Prop := ∀ x ∈ ns, 0 ≤ x ∧ x < 4611686018427387904
theorem wrtn_ok : ∀ {ns : List Int}, isN ns → (wrtn ns).length ≤ 9 * ns.length ∧ isB (wrtn ns)
 | [], _ => ⟨Nat.le_refl _, fun x hx => by cases hx⟩
 | n :: ns, h => by
  obtain ⟨i1, i2⟩ := wrtn_ok (ns := ns) fun x hx => h x (List.mem_cons_of_mem _ hx)
  have hn := h n (List.mem_cons_self ..)
  obtain ⟨g1, _⟩ := groups_len (N := n.toNat) (by omega)
  have e : wrtn (n :: ns) = groups n.toNat ++ wrtn ns := by unfold wrtn; rw [List.flatMap_cons]
  rw [e, List.length_append, List.length_cons]
  refine ⟨by omega, fun x hx => ?_⟩
  rcases List.mem_append.1 hx with hx | hx
  ·exact groups_isB (by omega) x hx
  ·exact i2 x hx
theorem isN_take {ns : List Int} {i : Nat} (h : isN ns) : isN (ns.take i) := fun x hx => h x (List.mem_of_mem_take hx)
def ir80_r0 : IC := .reg [⟨some 2, none, false, .mv (.k (.slice none 0 0))⟩] (some [0])
def ir80_r1 : IC := .reg [⟨some 5, none, false, .bsl 1 0 [] []⟩,
 ⟨some 3, none, false, .mv (.t 5)⟩] (some [0, 3])
def ir80_r2 : IC := .reg [⟨some 4, none, false, .mv (.k (.int .i64 0))⟩] (some [0, 3, 4])
def ir80_r3 : IC := .reg [⟨some 6, none, false, .mv (.t 4)⟩,
 ⟨some 7, none, false, .mv (.t 0)⟩,
 ⟨some 8, none, false, .len (.t 7)⟩,
 ⟨some 9, none, false, .cmp .lss (.t 6) (.t 8)⟩] (some [0, 3, 4, 9])
def ir80_1 : IC := .cond (.t 9) .skip (.exit 0)
def ir80_2 : IC := .seq ir80_r3 ir80_1
def ir80_r5 : IC := .reg [⟨some 12, none, false, .mv (.t 3)⟩,
 ⟨some 13, none, false, .mv (.t 0)⟩,
 ⟨some 14, none, false, .mv (.t 4)⟩,
 ⟨some 15, none, false, .iad 1 (.t 13) (.t 14)⟩,
 ⟨some 16, none, false, .ldc (.t 15)⟩,
 ⟨some 17, none, false, .call (.f 92) [(.t 16)]⟩,
 ⟨some 18, none, false, .app 1 1 (.t 12) (.t 17)⟩,
 ⟨some 3, none, false, .mv (.t 18)⟩] (some [0, 3, 4])
def ir80_3 : IC := .block 1 ir80_r5
def ir80_r4 : IC := .reg [⟨some 10, none, false, .mv (.t 4)⟩,
 ⟨some 11, none, false, .ar .add (.t 10) (.k (.int .i64 1))⟩,
 ⟨some 4, none, false, .mv (.t 11)⟩] (some [0, 3, 4])
def ir80_4 : IC := .seq ir80_3 ir80_r4
def ir80_5 : IC := .seq ir80_2 ir80_4
def ir80_6 : IC := .loop ir80_5
def ir80_7 : IC := .block 0 ir80_6
def ir80_8 : IC := .seq ir80_r2 ir80_7
def ir80_r6 : IC := .reg [⟨some 19, none, false, .mv (.t 3)⟩,
 ⟨some 2, none, false, .mv (.t 19)⟩] (some [2])
def ir80_9 : IC := .seq ir80_r6 .ret
def ir80_10 : IC := .seq ir80_8 ir80_9
def ir80_11 : IC := .seq ir80_r1 ir80_10
def ir80_12 : IC := .seq ir80_r0 ir80_11
def ir80 : IC := ir80_12
theorem fn80 : FnIs Tryd.prog 80 ir80 20 [.tmp 2] := ⟨Tryd.f80, Tryd.f80.body.getD .skip, Tryd.func80, by kernel_rfl, by kernel_rfl, by kernel_rfl, by kernel_rfl⟩
theorem written_c (n c : Nat) (ns : List Int) (hn : ns.length = n) (hN : isN ns) (hb : n ≤ 1000000) :
    Fc Tryd.prog 80 [.slice (some ⟨1, 0, none⟩) n c] (Hp 2 [none, srI ns]) (sO 2 (wrtn ns).length) ((Hp 2 [none, srI ns]).news [.cells ⟨rows eB (wrtn ns), 1, true⟩]) := by
 refine Fc.introR fn80 (by simp) rfl rfl ?_; simp only [argF]
 refine ITri.seq ?_
 refine ITri.reg pok ?_; simp -implicitDefEqProofs (disch := first | decide | exact of_eq_true (eq_true rfl) | omega | assumption) only [ ↓vcD, vcE, ↓vcG, vcF, evs, evP, evB, intsOf, fillC, Value.cells, pt, Value.oneCell', reduceIte, reduceCtorEq, Nat.reduceEqDiff, Nat.reduceAdd, Nat.reduceMul, Nat.reduceLT, Nat.reduceBEq, Nat.reduceLeDiff, Nat.reduceSub]
 refine ITri.seq ?_
 refine ITri.reg pok ?_; simp -implicitDefEqProofs (disch := first | decide | exact of_eq_true (eq_true rfl) | omega | assumption) only [ ↓vcD, vcE, ↓vcG, vcF, evs, evP, evB, intsOf, fillC, Value.cells, pt, Value.oneCell', reduceIte, reduceCtorEq, Nat.reduceEqDiff, Nat.reduceAdd, Nat.reduceMul, Nat.reduceLT, Nat.reduceBEq, Nat.reduceLeDiff, Nat.reduceSub]
 refine ITri.seq ?_
 refine ITri.seq ?_
 refine ITri.reg pok ?_; simp -implicitDefEqProofs (disch := first | decide | exact of_eq_true (eq_true rfl) | omega | assumption) only [ ↓vcD, vcE, ↓vcG, vcF, evs, evP, evB, intsOf, fillC, Value.cells, pt, Value.oneCell', reduceIte, reduceCtorEq, Nat.reduceEqDiff, Nat.reduceAdd, Nat.reduceMul, Nat.reduceLT, Nat.reduceBEq, Nat.reduceLeDiff, Nat.reduceSub]
 refine ITri.block ?_
 refine ITri.loop (fun i : Nat => [(0, .slice (some ⟨1, 0, none⟩) n c), (3, sO 2 (wrtn (ns.take i)).length), (4, .int .i64 i)]) (fun _ => []) (fun i => Hp 2 [none, srI ns, opR (wrtn (ns.take i))]) (fun i => i ≤ n) (fun i => n - i) 0 (Nat.zero_le _) (by
  have hok : Vm.okS (.room 0) 0 openB := fun _ => ⟨by omega, by omega⟩
  have hz : wrtn (ns.take 0) = [] := rfl
  have hz2 : rows eB [] = [] := rfl
  exact Wk.gc [0, 1, 2] [(2, .room 0)] (of_decide_eq_true rfl) (of_decide_eq_true rfl) rfl rfl (of_decide_eq_true rfl) rfl rfl (by repeat (first | exact xiOK_nil | refine xiOK_cons (by first | trivial | exact roomOK _ (by decide)) ?_)) rfl (by simp -implicitDefEqProofs (disch := first | decide | exact of_eq_true (eq_true rfl) | omega | assumption) only [hok, hz, hz2, List.length_nil, Nat.le_refl, objOK, sgL, xiL, objAt, nilO, OM, mvL, mv, mvS, okS, okP, mvL_rows, okML, okM, okML_rows, List.getElem?_cons_zero, Option.getD_some, implies_true, imp_self, ne_eq, and_self, true_or, or_true, Nat.zero_mul, Nat.sub_self, openB_self, ↓vcD, vcE, ↓vcG, vcF, evs, evP, evB, intsOf, fillC, Value.cells, pt, Value.oneCell', reduceIte, reduceCtorEq, Nat.reduceEqDiff, Nat.reduceAdd, Nat.reduceMul, Nat.reduceLT, Nat.reduceBEq, Nat.reduceLeDiff, Nat.reduceSub]) (by simp -implicitDefEqProofs (disch := first | decide | exact of_eq_true (eq_true rfl) | omega | assumption) only [hok, hz, hz2, List.length_nil, Nat.le_refl, valOK, sgL, xiL, mv, mvA, mvL, mvS, okS, okP, okM, okMA, okML, Option.getD_some, implies_true, and_self, true_or, or_true, Int.natCast_add, Int.cast_ofNat_Int, Nat.zero_mul, Nat.sub_self, openB_self, ↓vcD, vcE, ↓vcG, vcF, evs, evP, evB, intsOf, fillC, Value.cells, pt, Value.oneCell', reduceIte, reduceCtorEq, Nat.reduceEqDiff, Nat.reduceAdd, Nat.reduceMul, Nat.reduceLT, Nat.reduceBEq, Nat.reduceLeDiff, Nat.reduceSub]) (fun _ h => by cases h) ⟨rfl, fun _ h => by cases h⟩) fun i hi => ?_
 refine ITri.seq ?_
 refine ITri.seq ?_
 refine ITri.reg pok ?_; simp -implicitDefEqProofs (disch := first | decide | exact of_eq_true (eq_true rfl) | omega | assumption) only [ ↓vcD, vcE, ↓vcG, vcF, evs, evP, evB, intsOf, fillC, Value.cells, pt, Value.oneCell', reduceIte, reduceCtorEq, Nat.reduceEqDiff, Nat.reduceAdd, Nat.reduceMul, Nat.reduceLT, Nat.reduceBEq, Nat.reduceLeDiff, Nat.reduceSub]
 refine ITri.condD (by rfl) (fun h2 => ?_) (fun h2 => ?_)
 ·have hix : i < ns.length := by omega
  have hg := getN hix
  have hi' : (i : Int) < n := by omega
  have hx := hN _ (nth_mem hix)
  obtain ⟨x, hxx⟩ := Int.eq_ofNat_of_zero_le hx.1
  rw [hxx] at hg hx
  obtain ⟨t1, _⟩ := wrtn_ok (isN_take (i := i) hN)
  have t2 : (ns.take i).length ≤ 1000000 := by rw [List.length_take]; omega
  obtain ⟨g1, g2⟩ := groups_len (N := x) (by omega)
  have g0 : (groups x).length ≠ 0 := by omega
  have hT : takeC (rows eB (groups x)) 0 (groups x).length = some (rows eB (groups x)) := by
   rw [takeC_eq _ _ _ (by rw [rows_len]; omega), List.drop_zero, List.take_of_length_le (by rw [rows_len]; omega)]
  have hi1 : (i : Int) + 1 = ((i + 1 : Nat) : Int) := by omega
  have hs1 : wrtn (ns.take (i + 1)) = wrtn (ns.take i) ++ groups x := by
   rw [take_nth hix, wrtn_snoc, hxx, Int.toNat_natCast]
  have hs2 : (wrtn (ns.take i)).length + (groups x).length = (wrtn (ns.take (i + 1))).length := by rw [hs1, List.length_append]
  refine ITri.skip ?_; simp only [SeqQ_normal, BlkQ_normal]
  refine ITri.seq ?_
  refine ITri.block ?_
  refine ITri.reg pok ?_; simp -implicitDefEqProofs (disch := first | decide | exact of_eq_true (eq_true rfl) | omega | assumption) only [hg, hi', Nat.mul_one, Int.toNat_natCast,  ↓vcD, vcE, ↓vcG, vcF, evs, evP, evB, intsOf, fillC, Value.cells, pt, Value.oneCell', reduceIte, reduceCtorEq, Nat.reduceEqDiff, Nat.reduceAdd, Nat.reduceMul, Nat.reduceLT, Nat.reduceBEq, Nat.reduceLeDiff, Nat.reduceSub]
  refine ⟨_, _, groups_f (by omega) (sees0 rfl (of_decide_eq_true rfl)), ?_⟩
  simp -implicitDefEqProofs (disch := first | decide | exact of_eq_true (eq_true rfl) | omega | assumption) only [news_c, news_n,  ↓vcD, vcE, ↓vcG, vcF, evs, evP, evB, intsOf, fillC, Value.cells, pt, Value.oneCell', reduceIte, reduceCtorEq, Nat.reduceEqDiff, Nat.reduceAdd, Nat.reduceMul, Nat.reduceLT, Nat.reduceBEq, Nat.reduceLeDiff, Nat.reduceSub]
  rw [appK_o rfl rfl (by rw [rows_len]) g0]
  simp -implicitDefEqProofs (disch := first | decide | exact of_eq_true (eq_true rfl) | omega | assumption) only [hT, rows_allT,  ↓vcD, vcE, ↓vcG, vcF, evs, evP, evB, intsOf, fillC, Value.cells, pt, Value.oneCell', reduceIte, reduceCtorEq, Nat.reduceEqDiff, Nat.reduceAdd, Nat.reduceMul, Nat.reduceLT, Nat.reduceBEq, Nat.reduceLeDiff, Nat.reduceSub]
  rw [← rows_append, ← hs1, hs2]
  refine ITri.reg pok ?_; simp -implicitDefEqProofs (disch := first | decide | exact of_eq_true (eq_true rfl) | omega | assumption) only [hi1,  ↓vcD, vcE, ↓vcG, vcF, evs, evP, evB, intsOf, fillC, Value.cells, pt, Value.oneCell', reduceIte, reduceCtorEq, Nat.reduceEqDiff, Nat.reduceAdd, Nat.reduceMul, Nat.reduceLT, Nat.reduceBEq, Nat.reduceLeDiff, Nat.reduceSub]
  exact LoopQ.next (i + 1) (by omega) (by omega) (Wk.gc [0, 1, 4] [] (of_decide_eq_true rfl) (of_decide_eq_true rfl) rfl rfl (of_decide_eq_true rfl) rfl rfl (fun _ h => by cases h) rfl (by simp -implicitDefEqProofs (disch := first | decide | exact of_eq_true (eq_true rfl) | omega | assumption) only [objOK, sgL, xiL, objAt, nilO, OM, mvL, mv, mvS, okS, okP, mvL_rows, okML, okM, okML_rows, List.getElem?_cons_zero, Option.getD_some, implies_true, imp_self, ne_eq, and_self, ↓vcD, vcE, ↓vcG, vcF, evs, evP, evB, intsOf, fillC, Value.cells, pt, Value.oneCell', reduceIte, reduceCtorEq, Nat.reduceEqDiff, Nat.reduceAdd, Nat.reduceMul, Nat.reduceLT, Nat.reduceBEq, Nat.reduceLeDiff, Nat.reduceSub]) (by simp -implicitDefEqProofs (disch := first | decide | exact of_eq_true (eq_true rfl) | omega | assumption) only [ valOK, sgL, xiL, mv, mvA, mvL, mvS, okS, okP, okM, okMA, okML, Option.getD_some, implies_true, and_self, Int.natCast_add, Int.cast_ofNat_Int, ↓vcD, vcE, ↓vcG, vcF, evs, evP, evB, intsOf, fillC, Value.cells, pt, Value.oneCell', reduceIte, reduceCtorEq, Nat.reduceEqDiff, Nat.reduceAdd, Nat.reduceMul, Nat.reduceLT, Nat.reduceBEq, Nat.reduceLeDiff, Nat.reduceSub]) (fun _ h => by cases h) ⟨rfl, fun _ h => by cases h⟩)
 refine ITri.exit ?_; try simp -implicitDefEqProofs (disch := first | decide | exact of_eq_true (eq_true rfl) | omega | assumption) only [ ↓vcD, vcE, ↓vcG, vcF, evs, evP, evB, intsOf, fillC, Value.cells, pt, Value.oneCell', reduceIte, reduceCtorEq, Nat.reduceEqDiff, Nat.reduceAdd, Nat.reduceMul, Nat.reduceLT, Nat.reduceBEq, Nat.reduceLeDiff, Nat.reduceSub]
 obtain rfl : i = n := by omega
 rw [List.take_of_length_le (by omega)]
 refine ITri.seq ?_
 refine ITri.reg pok ?_; simp -implicitDefEqProofs (disch := first | decide | exact of_eq_true (eq_true rfl) | omega | assumption) only [ ↓vcD, vcE, ↓vcG, vcF, evs, evP, evB, intsOf, fillC, Value.cells, pt, Value.oneCell', reduceIte, reduceCtorEq, Nat.reduceEqDiff, Nat.reduceAdd, Nat.reduceMul, Nat.reduceLT, Nat.reduceBEq, Nat.reduceLeDiff, Nat.reduceSub]
 refine ITri.ret ?_
 exact end_mk (k := 2) (mk := fun s => s) mvI (by decide) (rows_no (f := eB) _) rfl (resF_tmp rfl resF_nil) rfl
theorem written_f {n c sz k : Nat} {op : Bool} {ns : List Int} {h : AH} (hn : ns.length = n) (hN : isN ns) (hb : n ≤ 1000000) (hs : h.sees 0 = true) (hg : h.get k = some (.cells ⟨rows eN ns, sz, op⟩)) :
    Fc Tryd.prog 80 [.slice (some ⟨k, 0, none⟩) n c] h (sO h.next (wrtn ns).length) (h.news [.cells ⟨rows eB (wrtn ns), 1, true⟩]) :=
 Fc.lift1o (os := [((wrtn ns).length, rows eB (wrtn ns), 1)]) (mk := fun ss => ss ++ []) (mkv := fun ss => ss.headD undef) (written_c n c ns hn hN hb) (MkL.app rfl) MkV.one (rows_no (f := eN) _) (fun o h => by simp at h; subst h; exact rows_no (f := eB) _) hs hg
end Go.Proofs.YtgjokhodccacoaaDoor
