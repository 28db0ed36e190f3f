import Derived.Test.YtgjokhodccacoaaDoorSRecX3
set_option linter.unusedSimpArgs false
set_option linter.unusedVariables false
namespace Go.Proofs.YtgjokhodccacoaaDoor
open Go.RowKit Go.Vm
set_option maxRecDepth 100000
theorem mOK_of {W H : Int} {xs : List Int} (h : mOK W H xs = true) : ∃ w h : Nat, W = w ∧ H = h ∧ 1 ≤ w ∧ w ≤ 60 ∧ 1 ≤ h ∧ h ≤ 60 ∧ xs.length = w * h ∧ w * h ≤ 3600 ∧ is7 xs := by
 unfold mOK at h
 simp only [Bool.and_eq_true, decide_eq_true_eq] at h
 obtain ⟨⟨⟨h1, h2⟩, h3⟩, h4⟩ := h
 obtain ⟨m1, m2⟩ := mul_bd h1 h2
 obtain ⟨a, b⟩ := inT_ok h1
 obtain ⟨c, d⟩ := inT_ok h2
 obtain ⟨w, rfl⟩ := Int.eq_ofNat_of_zero_le (show 0 ≤ W by omega)
 obtain ⟨h', rfl⟩ := Int.eq_ofNat_of_zero_le (show 0 ≤ H by omega)
 have e : (w : Int) * (h' : Int) = ((w * h' : Nat) : Int) := (Int.natCast_mul _ _).symm
 rw [e] at h3 m1 m2
 refine ⟨w, h', rfl, rfl, by omega, by omega, by omega, by omega, by omega, by omega, fun x hx => ?_⟩
 have := List.all_eq_true.1 h4 x hx
 exact inT_ok this
theorem mapP_ok {W H : Nat} {xs : List Int} (hW : W ≤ 60) (hH : H ≤ 60) (h7 : is7 xs) (hl : xs.length ≤ 3600) : 1 ≤ (mapP W H xs).length ∧ (mapP W H xs).length ≤ 100000 ∧ isB (mapP W H xs) := by
 obtain ⟨gW1, gW2⟩ := groups_len (N := W) (by omega)
 obtain ⟨gH1, gH2⟩ := groups_len (N := H) (by omega)
 obtain ⟨t1, t2⟩ := rlB_ok xs.length xs (Nat.le_refl _) h7 (by omega)
 unfold mapP
 rw [List.length_append, List.length_append]
 refine ⟨by omega, by omega, fun x hx => ?_⟩
 rcases List.mem_append.1 hx with hx | hx
 ·rcases List.mem_append.1 hx with hx | hx
  ·exact groups_isB (by omega) x hx
  ·exact groups_isB (by omega) x hx
 ·exact t2 x hx
abbrev srI (xs : List Int) : Option AObj := some (.cells ⟨rows eN xs, 0, false⟩)
def ir37_r0 : IC := .reg [⟨some 1, none, false, .box (.t 0)⟩,
 ⟨some 2, none, false, .mv (.k (.slice none 0 0))⟩,
 ⟨some 3, none, false, .mv (.k (.int .i64 0))⟩] (some [1])
def ir37_r1 : IC := .reg [⟨some 5, none, false, .lda 3 (.t 1)⟩,
 ⟨some 6, none, false, .call (.f 36) [(.t 5)]⟩,
 ⟨some 7, none, false, .cmp .neq (.t 6) (.k (.int .i64 0))⟩] (some [1, 7])
def ir37_r2 : IC := .reg [⟨some 2, none, false, .mv (.k (.slice none 0 0))⟩,
 ⟨some 3, none, false, .mv (.k (.int .i64 2))⟩] (some [2, 3])
def ir37_1 : IC := .seq ir37_r2 .ret
def ir37_2 : IC := .cond (.t 7) ir37_1 .skip
def ir37_3 : IC := .seq ir37_r1 ir37_2
def ir37_r3 : IC := .reg [⟨some 4, none, false, .alloc [(.slice none 0 0), (.int .i64 0), (.int .i8 0)]⟩] (some [1, 4])
def ir37_r4 : IC := .reg [⟨some 8, none, false, .fad 0 (.t 4)⟩,
 ⟨some 9, none, false, .call (.f 72) [(.t 8), (.k (.string ⟨#[87, 77, 80, 49]⟩))]⟩] (some [1, 4])
def ir37_r5 : IC := .reg [⟨some 10, none, false, .mkf 89 [] [(.t 1)]⟩,
 ⟨some 11, none, false, .call (.f 73) [(.t 4), (.k (.int .i64 6)), (.t 10)]⟩] (some [4])
def ir37_r6 : IC := .reg [⟨some 12, none, false, .fad 0 (.t 4)⟩,
 ⟨some 13, none, false, .call (.f 63) [(.t 12)]⟩,
 ⟨some 2, none, false, .mv (.t 13)⟩,
 ⟨some 3, none, false, .mv (.k (.int .i64 0))⟩] (some [2, 3])
def ir37_4 : IC := .seq ir37_r6 .ret
def ir37_5 : IC := .seq ir37_r5 ir37_4
def ir37_6 : IC := .seq ir37_r4 ir37_5
def ir37_7 : IC := .seq ir37_r3 ir37_6
def ir37_8 : IC := .seq ir37_3 ir37_7
def ir37_9 : IC := .seq ir37_r0 ir37_8
def ir37 : IC := ir37_9
theorem fn37 : FnIs Tryd.prog 37 ir37 14 [.tmp 2, .tmp 3] := ⟨Tryd.f37, Tryd.f37.body.getD .skip, Tryd.func37, by kernel_rfl, by kernel_rfl, by kernel_rfl, by kernel_rfl⟩
theorem wmap_c (n c : Nat) (W H : Int) (xs : List Int) (hn : xs.length = n) (hb : n ≤ 1000000) (hc : n ≤ c) (hco : c < openB) :
    Fc Tryd.prog 37 [mV 1 n c W H] (Hp 2 [none, srI xs]) (.tuple #[sO 2 (mapX W H xs).length, .int .i64 (mE W H xs)]) ((Hp 2 [none, srI xs]).news [.cells ⟨rows eB (mapX W H xs), 1, true⟩]) := by
 refine Fc.introR fn37 (by simp) rfl rfl ?_; simp only [argF]
 refine ITri.seq ?_
 refine ITri.reg pok ?_; simp -implicitDefEqProofs (disch := first | decide | exact of_eq_true (eq_true rfl) | omega | assumption) only [ ↓vcD, vcE, ↓vcG, vcF, evs, evP, evB, intsOf, fillC, Value.cells, pt, Value.oneCell', reduceIte, reduceCtorEq, Nat.reduceEqDiff, Nat.reduceAdd, Nat.reduceMul, Nat.reduceLT, Nat.reduceBEq, Nat.reduceLeDiff, Nat.reduceSub]
 refine ITri.seq ?_
 refine ITri.seq ?_
 cases h1 : mOK W H xs with
 | false =>
  have e : mE W H xs = 2 := by unfold mE; rw [h1]; rfl
  have ex : mapX W H xs = [] := by unfold mapX; rw [h1]; rfl
  refine ITri.reg pok ?_; simp -implicitDefEqProofs (disch := first | decide | exact of_eq_true (eq_true rfl) | omega | assumption) only [ ↓vcD, vcE, ↓vcG, vcF, evs, evP, evB, intsOf, fillC, Value.cells, pt, Value.oneCell', reduceIte, reduceCtorEq, Nat.reduceEqDiff, Nat.reduceAdd, Nat.reduceMul, Nat.reduceLT, Nat.reduceBEq, Nat.reduceLeDiff, Nat.reduceSub]
  refine ⟨_, _, check_f hn hb (sees0 rfl (of_decide_eq_true rfl)) (get_hq rfl rfl), ?_⟩
  rw [e, ex]
  simp -implicitDefEqProofs (disch := first | decide | exact of_eq_true (eq_true rfl) | omega | assumption) only [ne_eq, show ((2 : Int) = 0) = False from eq_false (by decide), decide_false, Bool.not_false,  ↓vcD, vcE, ↓vcG, vcF, evs, evP, evB, intsOf, fillC, Value.cells, pt, Value.oneCell', reduceIte, reduceCtorEq, Nat.reduceEqDiff, Nat.reduceAdd, Nat.reduceMul, Nat.reduceLT, Nat.reduceBEq, Nat.reduceLeDiff, Nat.reduceSub]
  refine ITri.cond (v := true) rfl (fun _ => ?_) (fun h => by cases h)
  refine ITri.seq ?_
  refine ITri.reg pok ?_; simp -implicitDefEqProofs (disch := first | decide | exact of_eq_true (eq_true rfl) | omega | assumption) only [ ↓vcD, vcE, ↓vcG, vcF, evs, evP, evB, intsOf, fillC, Value.cells, pt, Value.oneCell', reduceIte, reduceCtorEq, Nat.reduceEqDiff, Nat.reduceAdd, Nat.reduceMul, Nat.reduceLT, Nat.reduceBEq, Nat.reduceLeDiff, Nat.reduceSub]
  refine ITri.ret ?_
  exact end_nil (mk := fun s => .tuple #[s, .int .i64 2]) (mvP 2) (resF_tmp rfl (resF_tmp rfl resF_nil)) rfl
 | true =>
  have e : mE W H xs = 0 := by unfold mE; rw [h1]; rfl
  have ex : mapX W H xs = mapB W.toNat H.toNat xs := by unfold mapX; rw [h1]; rfl
  refine ITri.reg pok ?_; simp -implicitDefEqProofs (disch := first | decide | exact of_eq_true (eq_true rfl) | omega | assumption) only [ ↓vcD, vcE, ↓vcG, vcF, evs, evP, evB, intsOf, fillC, Value.cells, pt, Value.oneCell', reduceIte, reduceCtorEq, Nat.reduceEqDiff, Nat.reduceAdd, Nat.reduceMul, Nat.reduceLT, Nat.reduceBEq, Nat.reduceLeDiff, Nat.reduceSub]
  refine ⟨_, _, check_f hn hb (sees0 rfl (of_decide_eq_true rfl)) (get_hq rfl rfl), ?_⟩
  obtain ⟨w, h, rfl, rfl, a1, a2, a3, a4, a5, a6, h7⟩ := mOK_of h1
  obtain ⟨p1, p2, p3⟩ := mapP_ok a2 a4 h7 (by omega)
  rw [e, ex]
  rw [Int.toNat_natCast, Int.toNat_natCast]
  simp -implicitDefEqProofs (disch := first | decide | exact of_eq_true (eq_true rfl) | omega | assumption) only [decide_true, Bool.not_true,  ↓vcD, vcE, ↓vcG, vcF, evs, evP, evB, intsOf, fillC, Value.cells, pt, Value.oneCell', reduceIte, reduceCtorEq, Nat.reduceEqDiff, Nat.reduceAdd, Nat.reduceMul, Nat.reduceLT, Nat.reduceBEq, Nat.reduceLeDiff, Nat.reduceSub]
  refine ITri.cond (v := false) rfl (fun h => by cases h) (fun _ => ?_); refine ITri.skip ?_; simp only [SeqQ_normal, BlkQ_normal]
  refine ITri.seq ?_
  refine ITri.reg pok ?_; simp -implicitDefEqProofs (disch := first | decide | exact of_eq_true (eq_true rfl) | omega | assumption) only [ ↓vcD, vcE, ↓vcG, vcF, evs, evP, evB, intsOf, fillC, Value.cells, pt, Value.oneCell', reduceIte, reduceCtorEq, Nat.reduceEqDiff, Nat.reduceAdd, Nat.reduceMul, Nat.reduceLT, Nat.reduceBEq, Nat.reduceLeDiff, Nat.reduceSub]
  refine ITri.seq ?_
  refine ITri.reg pok ?_; simp -implicitDefEqProofs (disch := first | decide | exact of_eq_true (eq_true rfl) | omega | assumption) only [ ↓vcD, vcE, ↓vcG, vcF, evs, evP, evB, intsOf, fillC, Value.cells, pt, Value.oneCell', reduceIte, reduceCtorEq, Nat.reduceEqDiff, Nat.reduceAdd, Nat.reduceMul, Nat.reduceLT, Nat.reduceBEq, Nat.reduceLeDiff, Nat.reduceSub]
  have T0 : WrTo 2 [none, srI xs, some (AObj.cells ⟨[.int .i64 w, .int .i64 h, .slice (some ⟨1, 0, none⟩) n c], 1, false⟩), bufE] 3 3 _ _ headM := wrE_to rfl (by decide) (by decide)
  refine ⟨_, _, wstr_e (m := 4) (xs := headM) rfl rfl (fun ty => by kernel_rfl) (by kernel_rfl) rfl (by decide) (by decide) (by decide), ?_⟩
  try simp -implicitDefEqProofs (disch := first | decide | exact of_eq_true (eq_true rfl) | omega | assumption) only [ ↓vcD, vcE, ↓vcG, vcF, evs, evP, evB, intsOf, fillC, Value.cells, pt, Value.oneCell', reduceIte, reduceCtorEq, Nat.reduceEqDiff, Nat.reduceAdd, Nat.reduceMul, Nat.reduceLT, Nat.reduceBEq, Nat.reduceLeDiff, Nat.reduceSub]
  have g1 : (wrE [none, srI xs, some (AObj.cells ⟨[.int .i64 w, .int .i64 h, .slice (some ⟨1, 0, none⟩) n c], 1, false⟩), bufE] 3 headM)[1]? = some (srI xs) := rfl
  have g2 : (wrE [none, srI xs, some (AObj.cells ⟨[.int .i64 w, .int .i64 h, .slice (some ⟨1, 0, none⟩) n c], 1, false⟩), bufE] 3 headM)[2]? = some (some (AObj.cells ⟨[.int .i64 w, .int .i64 h, .slice (some ⟨1, 0, none⟩) n c], 1, false⟩)) := rfl
  have g3 : (wrE [none, srI xs, some (AObj.cells ⟨[.int .i64 w, .int .i64 h, .slice (some ⟨1, 0, none⟩) n c], 1, false⟩), bufE] 3 headM).length = 6 := rfl
  generalize wrE [none, srI xs, some (AObj.cells ⟨[.int .i64 w, .int .i64 h, .slice (some ⟨1, 0, none⟩) n c], 1, false⟩), bufE] 3 headM = L1 at *
  have W1 : Wr 2 (L1 ++ [bufE]) L1.length L1.length [] := ⟨by omega, .inl ⟨rfl, rfl, by rw [List.getElem?_append_right (Nat.le_refl _), Nat.sub_self]; rfl⟩⟩
  obtain ⟨L2, k2, T2, F2⟩ := clo89_x (W := w) (H := h) (km := 2) (ks := 1) W1 (low_get g2) (low_get g1) (by omega) (by omega) hn h7 hb hc hco (by omega) (by omega)
  obtain ⟨L3, k3, T3, F3⟩ := one_x (kind := 6) T0.st (by decide) F2 T2 p1 p2 p3 (by decide)
  refine ITri.seq ?_
  refine ITri.reg pok ?_; simp -implicitDefEqProofs (disch := first | decide | exact of_eq_true (eq_true rfl) | omega | assumption) only [ ↓vcD, vcE, ↓vcG, vcF, evs, evP, evB, intsOf, fillC, Value.cells, pt, Value.oneCell', reduceIte, reduceCtorEq, Nat.reduceEqDiff, Nat.reduceAdd, Nat.reduceMul, Nat.reduceLT, Nat.reduceBEq, Nat.reduceLeDiff, Nat.reduceSub]
  refine ⟨_, _, F3, ?_⟩
  try simp -implicitDefEqProofs (disch := first | decide | exact of_eq_true (eq_true rfl) | omega | assumption) only [ ↓vcD, vcE, ↓vcG, vcF, evs, evP, evB, intsOf, fillC, Value.cells, pt, Value.oneCell', reduceIte, reduceCtorEq, Nat.reduceEqDiff, Nat.reduceAdd, Nat.reduceMul, Nat.reduceLT, Nat.reduceBEq, Nat.reduceLeDiff, Nat.reduceSub]
  obtain ⟨q0, q1, q2, q3, q4⟩ : 1 ≤ (mapB w h xs).length ∧ 3 ≠ k3 ∧ 2 ≤ k3 ∧ L3[3]? = some (bufO (.slice (some ⟨k3, 0, none⟩) (mapB w h xs).length openB)) ∧ L3[k3]? = some (opR (mapB w h xs)) := by
   rcases T3.st.st with ⟨h, _, _⟩ | h
   ·simp [headM] at h
   ·exact h
  refine ITri.seq ?_
  refine ITri.reg pok ?_; simp -implicitDefEqProofs (disch := first | decide | exact of_eq_true (eq_true rfl) | omega | assumption) only [ ↓vcD, vcE, ↓vcG, vcF, evs, evP, evB, intsOf, fillC, Value.cells, pt, Value.oneCell', reduceIte, reduceCtorEq, Nat.reduceEqDiff, Nat.reduceAdd, Nat.reduceMul, Nat.reduceLT, Nat.reduceBEq, Nat.reduceLeDiff, Nat.reduceSub]
  refine ⟨_, _, bytes_w q3, ?_⟩
  try simp -implicitDefEqProofs (disch := first | decide | exact of_eq_true (eq_true rfl) | omega | assumption) only [ ↓vcD, vcE, ↓vcG, vcF, evs, evP, evB, intsOf, fillC, Value.cells, pt, Value.oneCell', reduceIte, reduceCtorEq, Nat.reduceEqDiff, Nat.reduceAdd, Nat.reduceMul, Nat.reduceLT, Nat.reduceBEq, Nat.reduceLeDiff, Nat.reduceSub]
  refine ITri.ret ?_
  exact end_mk (k := k3) (mk := fun s => .tuple #[s, .int .i64 0]) (mvP 0) q2 (rows_no (f := eB) _) (by rw [q4]; rfl) (resF_tmp rfl (resF_tmp rfl resF_nil)) rfl
theorem wmap_f {n c sz k : Nat} {op : Bool} {W H : Int} {xs : List Int} {h : AH} (hn : xs.length = n) (hb : n ≤ 1000000) (hc : n ≤ c) (hco : c < openB) (hs : h.sees 0 = true) (hg : h.get k = some (.cells ⟨rows eN xs, sz, op⟩)) :
    Fc Tryd.prog 37 [mV k n c W H] h (.tuple #[sO h.next (mapX W H xs).length, .int .i64 (mE W H xs)]) (h.news [.cells ⟨rows eB (mapX W H xs), 1, true⟩]) :=
 Fc.lift1o (os := [((mapX W H xs).length, rows eB (mapX W H xs), 1)]) (mk := fun ss => [.agg ⟨[Value.int .i64 W, .int .i64 H] ++ ss ++ []⟩]) (mkv := fun ss => .tuple ⟨ss ++ [.int .i64 (mE W H xs)]⟩) (wmap_c n c W H xs hn hb hc hco) (mkM W H) (MkV.tup (MkL.app rfl)) (rows_no (f := eN) _) (fun o h => by simp at h; subst h; exact rows_no (f := eB) _) hs hg
end Go.Proofs.YtgjokhodccacoaaDoor
