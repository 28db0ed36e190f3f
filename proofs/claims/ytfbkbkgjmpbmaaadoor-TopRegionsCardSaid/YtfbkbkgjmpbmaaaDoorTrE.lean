/-
  Chapter 10 at the top: Certify, by names.
-/
import Derived.Test.YtfbkbkgjmpbmaaaDoorTrD
set_option linter.unusedSimpArgs false
set_option linter.unusedVariables false
namespace Go.Vm
open Go Go.RowKit
/-- How a function ends that returns one of its own rows, with open room, and two numbers. -/
theorem end_own3 {P : Program} {rs : List ResultVar} {l : Fr} {L : List (Option AObj)} {k n b sz : Nat} {e1 e2 : Int} {cs : List Value} (hk : b ≤ k) (hno : noAddrL cs = true) (hL : L[k]? = some (some (.cells ⟨cs, sz, true⟩))) (hr : resF P l (Hp b L) rs = some [.slice (some ⟨k, 0, none⟩) n openB, .int .i64 e1, .int .i64 e2]) :
    EndR P rs b [.cells ⟨cs, sz, true⟩] (.tuple #[.slice (some ⟨b, 0, none⟩) n openB, .int .i64 e1, .int .i64 e2]) .ret l [] (Hp b L) := by
  refine ⟨by simp, rfl, _, [k], [], hr, rfl, by simp, by simpa using hk, (fun p hp => by cases hp), ?_, ?_, fun i o2 h => .inr ?_⟩
  · show Value.tuple #[_, _, _] = .tuple ⟨[mvS .same ⟨(fun k' => if k' < b then k' else [k].getD (k' - b) 0) b, 0, none⟩ n openB, _, _]⟩
    simp [mvS]
    exact ⟨rfl, rfl⟩
  · exact ⟨⟨by simp, trivial⟩, trivial, trivial, trivial⟩
  · cases i with
    | zero =>
      simp only [List.getElem?_cons_zero, Option.some.injEq] at h
      subst h
      refine ⟨fun h => (by cases h), _, get_hq rfl (by rw [show [k].getD 0 0 = k from rfl, hL]; rfl), ?_⟩
      exact ⟨(mvL_noAddr _ _ _ hno).symm, okML_noAddr _ _ _ hno, fun e => e, fun e => ⟨e, rfl⟩⟩
    | succ i => simp at h
theorem cells_all {wl k sz m : Nat} {op : Bool} {M : List (Option AObj)} {cs : List Value} (h : M[k]? = some (some (.cells ⟨cs, sz, op⟩))) (hl : cs.length = m) : cellsAt (Hp wl M) k 0 m = some cs := by
  unfold cellsAt
  rw [show (Hp wl M).get k = some (.cells ⟨cs, sz, op⟩) from get_hq rfl (by rw [h]; rfl)]
  simp only [List.drop_zero, List.take_of_length_le (show cs.length ≤ m by omega)]
  exact if_pos (by omega)
end Go.Vm
namespace Go.Proofs.YtfbkbkgjmpbmaaaDoor
open Go.RowKit Go.Vm
set_option maxRecDepth 1000000
def evE (i : Nat) : List Value := [.int .i64 i, .int .i64 0, .int .i64 0, .int .i64 (-1000000000000000), .int .i64 1000000000000000, gau]
def evs : Nat → List Value
  | 0 => []
  | n + 1 => evs n ++ evE n
theorem evs_len : ∀ n, (evs n).length = n * 6
  | 0 => rfl
  | n + 1 => by
    show (evs n ++ evE n).length = _
    rw [List.length_append, evs_len n]
    show n * 6 + 6 = _
    omega
theorem evs_no : noAddrL (evs 6) = true := rfl
theorem sp_two {a : Nat} : ∀ i, i < 6 → takeC (specL a) (i * 2) 2 = some [.int .i64 (-1000000000000000), .int .i64 1000000000000000] := six rfl rfl rfl rfl rfl rfl
theorem wf_gau {s : Nat} : ∀ i, i < 6 → (wafL s)[13 + i]? = some gau := six rfl rfl rfl rfl rfl rfl
structure CS where
  i : Nat
  v : Value
  M : List (Option AObj)
def CI (a s : Nat) (x : CS) : Prop := x.i ≤ 6 ∧ x.M[1]? = some (speB a) ∧ x.M[2]? = some (wafB s) ∧ ((x.i = 0 ∧ x.v = .slice none 0 0) ∨ ∃ k, 3 ≤ k ∧ x.v = .slice (some ⟨k, 0, none⟩) x.i openB ∧ x.M[k]? = some (some (.cells ⟨evs x.i, 6, true⟩)))
/-- An append to the lines. -/
theorem ci_app {a s : Nat} {x : CS} (h : CI a s x) (hi : x.i < 6) {M2 : List (Option AObj)} {k2 : Nat} (ho : ∀ j, j < x.M.length → M2[j]? = x.M[j]?) (hl : x.M.length ≤ M2.length) (hk : cellsAt (Hp 1 M2) k2 0 6 = some (evE x.i)) :
    ∃ v' M', CI a s ⟨x.i + 1, v', M'⟩ ∧ ∀ K : Value → AH → Prop, K v' (Hp 1 M') → appK (Hp 1 M2) 6 56 x.v (.slice (some ⟨k2, 0, none⟩) 1 1) K := by
  obtain ⟨i, v, M⟩ := x
  obtain ⟨h1, h2, h3, h4⟩ := h
  simp only at h1 h2 h3 h4 hi ho hl hk ⊢
  have hg2 := get_lt h3
  have g1 : M2[1]? = some (speB a) := by rw [ho 1 (by omega)]; exact h2
  have g2 : M2[2]? = some (wafB s) := by rw [ho 2 hg2]; exact h3
  rcases h4 with ⟨rfl, rfl⟩ | ⟨k, hk3, rfl, hkr⟩
  · refine ⟨.slice (some ⟨M2.length, 0, none⟩) 1 openB, M2 ++ [some (AObj.cells ⟨evE 0, 6, true⟩)], ⟨by show 0 + 1 ≤ 6; omega, by show (M2 ++ _)[1]? = _; rw [List.getElem?_append_left (by omega)]; exact g1, by show (M2 ++ _)[2]? = _; rw [List.getElem?_append_left (by omega)]; exact g2, .inr ⟨M2.length, by omega, rfl, ?_⟩⟩, fun K q => ?_⟩
    · show (M2 ++ _)[M2.length]? = _
      rw [List.getElem?_append_right (Nat.le_refl _), Nat.sub_self]
      rfl
    · rw [appK_n (by decide), show cellsAt (Hq 1 [] M2) k2 0 (1 * 6) = some (evE 0) from hk]
      show chk _ _
      unfold chk
      exact ⟨by decide, q⟩
  · have hkl := get_lt hkr
    have g3 : M2[k]? = some (some (.cells ⟨evs i, 6, true⟩)) := by rw [ho k hkl]; exact hkr
    refine ⟨.slice (some ⟨M2.length, 0, none⟩) (i + 1) openB, (M2 ++ [some (AObj.cells ⟨evs i ++ evE i, 6, true⟩)]).set k none, ⟨by show i + 1 ≤ 6; omega, ?_, ?_, .inr ⟨M2.length, by omega, rfl, ?_⟩⟩, fun K q => ?_⟩
    · show ((M2 ++ _).set k none)[1]? = _
      rw [List.getElem?_set_ne (by omega), List.getElem?_append_left (by omega)]; exact g1
    · show ((M2 ++ _).set k none)[2]? = _
      rw [List.getElem?_set_ne (by omega), List.getElem?_append_left (by omega)]; exact g2
    · show ((M2 ++ _).set k none)[M2.length]? = _
      rw [List.getElem?_set_ne (by omega), List.getElem?_append_right (Nat.le_refl _), Nat.sub_self]
      rfl
    · rw [appK_o rfl (by rw [g3]; rfl) (evs_len i) (by decide), show cellsAt (Hq 1 [] M2) k2 0 (1 * 6) = some (evE i) from hk]
      show chk _ _
      unfold chk
      exact ⟨⟨by omega, by omega⟩, rfl, q⟩
theorem certify_s {a s : Nat} (ha : a < 32) (h1 : 1 ≤ s) (hs : s < 32) (hz : s &&& a = s) : Fc Tryd.prog 10 [.agg ⟨specL a⟩, .agg ⟨wafL s⟩] (Hp 1 [none]) (.tuple #[.slice (some ⟨1, 0, none⟩) 6 openB, .int .i64 0, .int .i64 0]) ((Hp 1 [none]).news [.cells ⟨evs 6, 6, true⟩]) := by
  refine Fc.introR fn10 (by simp) rfl rfl ?_; simp only [argF]
  have hT : takeC (wafL s) 0 12 = some zerL := rfl
  have hn : ¬ (-1 : Int) ≥ 0 := by decide
  refine ITri.seq ?_
  refine ITri.reg pok ?_; simp -implicitDefEqProofs (disch := first | decide | exact of_eq_true (eq_true rfl) | omega | assumption) only [ ↓vcD, vcE, ↓vcG, vcF, evs, evP, evB, intsOf, fillC, Value.cells, pt, Value.oneCell', reduceIte, reduceCtorEq, Nat.reduceEqDiff, Nat.reduceAdd, Nat.reduceMul, Nat.reduceLT, Nat.reduceBEq, Nat.reduceLeDiff, Nat.reduceSub] -- r0
  refine ITri.seq ?_
  refine ITri.seq ?_
  refine ITri.reg pok ?_; simp -implicitDefEqProofs (disch := first | decide | exact of_eq_true (eq_true rfl) | omega | assumption) only [@tk_spec a, @tk_waf s,  ↓vcD, vcE, ↓vcG, vcF, evs, evP, evB, intsOf, fillC, Value.cells, pt, Value.oneCell', reduceIte, reduceCtorEq, Nat.reduceEqDiff, Nat.reduceAdd, Nat.reduceMul, Nat.reduceLT, Nat.reduceBEq, Nat.reduceLeDiff, Nat.reduceSub] -- r1
  refine ⟨_, _, isSpec_f ha (sees0 rfl (of_decide_eq_true rfl)), ?_⟩
  simp -implicitDefEqProofs (disch := first | decide | exact of_eq_true (eq_true rfl) | omega | assumption) only [@tk_waf s, Bool.not_true,  ↓vcD, vcE, ↓vcG, vcF, evs, evP, evB, intsOf, fillC, Value.cells, pt, Value.oneCell', reduceIte, reduceCtorEq, Nat.reduceEqDiff, Nat.reduceAdd, Nat.reduceMul, Nat.reduceLT, Nat.reduceBEq, Nat.reduceLeDiff, Nat.reduceSub]
  refine ⟨_, _, isWafer_f h1 hs (sees0 rfl (of_decide_eq_true rfl)), ?_⟩
  simp -implicitDefEqProofs (disch := first | decide | exact of_eq_true (eq_true rfl) | omega | assumption) only [Bool.not_true,  ↓vcD, vcE, ↓vcG, vcF, evs, evP, evB, intsOf, fillC, Value.cells, pt, Value.oneCell', reduceIte, reduceCtorEq, Nat.reduceEqDiff, Nat.reduceAdd, Nat.reduceMul, Nat.reduceLT, Nat.reduceBEq, Nat.reduceLeDiff, Nat.reduceSub]
  refine ITri.cond (v := false) rfl (fun h => by cases h) (fun _ => ?_); refine ITri.skip ?_; simp only [SeqQ_normal, BlkQ_normal]
  refine ITri.seq ?_
  refine ITri.seq ?_
  refine ITri.reg pok ?_; simp -implicitDefEqProofs (disch := first | decide | exact of_eq_true (eq_true rfl) | omega | assumption) only [@tk_spec a, @tk_waf s,  ↓vcD, vcE, ↓vcG, vcF, evs, evP, evB, intsOf, fillC, Value.cells, pt, Value.oneCell', reduceIte, reduceCtorEq, Nat.reduceEqDiff, Nat.reduceAdd, Nat.reduceMul, Nat.reduceLT, Nat.reduceBEq, Nat.reduceLeDiff, Nat.reduceSub] -- r3
  refine ⟨_, _, fault_f ha hs (sees0 rfl (of_decide_eq_true rfl)), ?_⟩
  rw [if_pos hz]
  try simp -implicitDefEqProofs (disch := first | decide | exact of_eq_true (eq_true rfl) | omega | assumption) only [ ↓vcD, vcE, ↓vcG, vcF, evs, evP, evB, intsOf, fillC, Value.cells, pt, Value.oneCell', reduceIte, reduceCtorEq, Nat.reduceEqDiff, Nat.reduceAdd, Nat.reduceMul, Nat.reduceLT, Nat.reduceBEq, Nat.reduceLeDiff, Nat.reduceSub]
  refine ITri.seq ?_
  refine ITri.reg pok ?_; simp -implicitDefEqProofs (disch := first | decide | exact of_eq_true (eq_true rfl) | omega | assumption) only [hn, decide_false,  ↓vcD, vcE, ↓vcG, vcF, evs, evP, evB, intsOf, fillC, Value.cells, pt, Value.oneCell', reduceIte, reduceCtorEq, Nat.reduceEqDiff, Nat.reduceAdd, Nat.reduceMul, Nat.reduceLT, Nat.reduceBEq, Nat.reduceLeDiff, Nat.reduceSub] -- r4
  refine ITri.cond (v := false) rfl (fun h => by cases h) (fun _ => ?_); refine ITri.skip ?_; simp only [SeqQ_normal, BlkQ_normal]
  refine ITri.seq ?_
  refine ITri.seq ?_
  refine ITri.reg pok ?_; simp -implicitDefEqProofs (disch := first | decide | exact of_eq_true (eq_true rfl) | omega | assumption) only [hT,  ↓vcD, vcE, ↓vcG, vcF, evs, evP, evB, intsOf, fillC, Value.cells, pt, Value.oneCell', reduceIte, reduceCtorEq, Nat.reduceEqDiff, Nat.reduceAdd, Nat.reduceMul, Nat.reduceLT, Nat.reduceBEq, Nat.reduceLeDiff, Nat.reduceSub] -- r6
  refine ITri.block ?_ -- 0
  refine ITri.loop (fun x : CS => [(2, pt 1), (3, pt 2), (4, x.v), (25, .agg ⟨zerL⟩), (26, .int .i64 x.i)]) (fun _ => []) (fun x => Hp 1 x.M) (CI a s) (fun x => 6 - x.i) ⟨0, .slice none 0 0, [none, speB a, wafB s]⟩ ⟨Nat.zero_le _, rfl, rfl, .inl ⟨rfl, rfl⟩⟩ (Wk.sub ⟨rfl, rfl, rfl, rfl, rfl, trivial⟩) fun x I => ?_
  have I' := I
  obtain ⟨i1, i2, i3, i4⟩ := I'
  refine ITri.seq ?_
  refine ITri.reg pok ?_; simp -implicitDefEqProofs (disch := first | decide | exact of_eq_true (eq_true rfl) | omega | assumption) only [ ↓vcD, vcE, ↓vcG, vcF, evs, evP, evB, intsOf, fillC, Value.cells, pt, Value.oneCell', reduceIte, reduceCtorEq, Nat.reduceEqDiff, Nat.reduceAdd, Nat.reduceMul, Nat.reduceLT, Nat.reduceBEq, Nat.reduceLeDiff, Nat.reduceSub] -- r7
  refine ITri.seq ?_
  refine ITri.condD (by rfl) (fun hi => ?_) (fun hi => ?_) -- %27
  · have hi6 : x.i < 6 := by omega
    have e1 := sp_two (a := a) x.i hi6
    have e2 := wf_gau (s := s) x.i hi6
    have hi1 : (x.i : Int) + 1 = ((x.i + 1 : Nat) : Int) := by omega
    have hl := get_lt i3
    have hl1 : 1 ≤ x.M.length := by omega
    obtain ⟨M2, hM2⟩ : ∃ M2, x.M ++ [some (AObj.cells ⟨[.int .i64 0, .int .i64 0], 1, false⟩)] = M2 := ⟨_, rfl⟩
    have l2 : M2.length = x.M.length + 1 := by rw [← hM2, List.length_append]; rfl
    have o2 : ∀ j, j < x.M.length → M2[j]? = x.M[j]? := fun j hj => by rw [← hM2, List.getElem?_append_left hj]
    have q1 : M2[1]? = some (speB a) := by rw [o2 1 (by omega)]; exact i2
    have q2 : M2[2]? = some (wafB s) := by rw [o2 2 hl]; exact i3
    have q3 : M2[x.M.length]? = some (some (AObj.cells ⟨[.int .i64 0, .int .i64 0], 1, false⟩)) := by
      rw [← hM2, List.getElem?_append_right (Nat.le_refl _), Nat.sub_self]
      rfl
    refine ITri.skip ?_; simp only [SeqQ_normal, BlkQ_normal]
    refine ITri.seq ?_
    refine ITri.block ?_ -- 1
    refine ITri.seq ?_
    refine ITri.reg pok ?_; simp -implicitDefEqProofs (disch := first | decide | exact of_eq_true (eq_true rfl) | omega | assumption) only [ ↓vcD, vcE, ↓vcG, vcF, evs, evP, evB, intsOf, fillC, Value.cells, pt, Value.oneCell', reduceIte, reduceCtorEq, Nat.reduceEqDiff, Nat.reduceAdd, Nat.reduceMul, Nat.reduceLT, Nat.reduceBEq, Nat.reduceLeDiff, Nat.reduceSub] -- r8
    refine gen_idx rfl rfl (idx_zer x.i hi6) ?_
    simp -implicitDefEqProofs (disch := first | decide | exact of_eq_true (eq_true rfl) | omega | assumption) only [apd_get, apd_get0, apd_set0, apd_set, List.length_append, List.append_assoc, Nat.add_assoc, hl1,  ↓vcD, vcE, ↓vcG, vcF, evs, evP, evB, intsOf, fillC, Value.cells, pt, Value.oneCell', reduceIte, reduceCtorEq, Nat.reduceEqDiff, Nat.reduceAdd, Nat.reduceMul, Nat.reduceLT, Nat.reduceBEq, Nat.reduceLeDiff, Nat.reduceSub]
    rw [hM2]
    refine ITri.draw pok ?_; simp -implicitDefEqProofs (disch := first | decide | exact of_eq_true (eq_true rfl) | omega | assumption) only [q1, q2, q3, e1, e2,  ↓vcD, vcE, ↓vcG, vcF, evs, evP, evB, intsOf, fillC, Value.cells, pt, Value.oneCell', reduceIte, reduceCtorEq, Nat.reduceEqDiff, Nat.reduceAdd, Nat.reduceMul, Nat.reduceLT, Nat.reduceBEq, Nat.reduceLeDiff, Nat.reduceSub] -- r9
    have hk : cellsAt (Hp 1 (M2 ++ [some (AObj.cells ⟨evE x.i, 6, false⟩)])) M2.length 0 6 = some (evE x.i) := cells_all (by rw [List.getElem?_append_right (Nat.le_refl _), Nat.sub_self]; rfl) rfl
    obtain ⟨v', M', J, q⟩ := ci_app I hi6 (M2 := M2 ++ [some (AObj.cells ⟨evE x.i, 6, false⟩)]) (fun j hj => by rw [List.getElem?_append_left (by omega)]; exact o2 j hj) (by rw [List.length_append]; omega) hk
    show appK (Hp 1 (M2 ++ [some (AObj.cells ⟨evE x.i, 6, false⟩)])) 6 56 x.v _ _
    refine q _ ?_
    refine ITri.reg pok ?_; simp -implicitDefEqProofs (disch := first | decide | exact of_eq_true (eq_true rfl) | omega | assumption) only [hi1,  ↓vcD, vcE, ↓vcG, vcF, evs, evP, evB, intsOf, fillC, Value.cells, pt, Value.oneCell', reduceIte, reduceCtorEq, Nat.reduceEqDiff, Nat.reduceAdd, Nat.reduceMul, Nat.reduceLT, Nat.reduceBEq, Nat.reduceLeDiff, Nat.reduceSub] -- r10
    exact LoopQ.next ⟨x.i + 1, v', M'⟩ J (by show 6 - (x.i + 1) < 6 - x.i; omega) (Wk.sub ⟨rfl, rfl, rfl, rfl, rfl, trivial⟩)
  refine ITri.exit ?_; try simp -implicitDefEqProofs (disch := first | decide | exact of_eq_true (eq_true rfl) | omega | assumption) only [ ↓vcD, vcE, ↓vcG, vcF, evs, evP, evB, intsOf, fillC, Value.cells, pt, Value.oneCell', reduceIte, reduceCtorEq, Nat.reduceEqDiff, Nat.reduceAdd, Nat.reduceMul, Nat.reduceLT, Nat.reduceBEq, Nat.reduceLeDiff, Nat.reduceSub] -- exit 0
  obtain ⟨i, v, M⟩ := x
  simp only at hi i1 i2 i3 i4 ⊢
  obtain rfl : i = 6 := by omega
  rcases i4 with ⟨h, _⟩ | ⟨k, hk3, rfl, hkr⟩
  · omega
  refine ITri.seq ?_
  refine ITri.reg pok ?_; simp -implicitDefEqProofs (disch := first | decide | exact of_eq_true (eq_true rfl) | omega | assumption) only [ ↓vcD, vcE, ↓vcG, vcF, evs, evP, evB, intsOf, fillC, Value.cells, pt, Value.oneCell', reduceIte, reduceCtorEq, Nat.reduceEqDiff, Nat.reduceAdd, Nat.reduceMul, Nat.reduceLT, Nat.reduceBEq, Nat.reduceLeDiff, Nat.reduceSub] -- r11
  refine ITri.ret ?_
  exact end_own3 (k := k) (by omega) evs_no hkr rfl
theorem certify_n {a s : Nat} (ha : a < 32) (h1 : 1 ≤ s) (hs : s < 32) (hz : ¬ s &&& a = s) : Fc Tryd.prog 10 [.agg ⟨specL a⟩, .agg ⟨wafL s⟩] (Hp 1 [none]) (.tuple #[.slice none 0 0, .int .i64 6, .int .i64 100]) (Hp 1 [none]) := by
  refine Fc.intro0 fn10 (by simp) rfl rfl ?_; simp only [argF]
  have hn : (6 : Int) ≥ 0 := by decide
  refine ITri.seq ?_
  refine ITri.reg pok ?_; simp -implicitDefEqProofs (disch := first | decide | exact of_eq_true (eq_true rfl) | omega | assumption) only [ ↓vcD, vcE, ↓vcG, vcF, evs, evP, evB, intsOf, fillC, Value.cells, pt, Value.oneCell', reduceIte, reduceCtorEq, Nat.reduceEqDiff, Nat.reduceAdd, Nat.reduceMul, Nat.reduceLT, Nat.reduceBEq, Nat.reduceLeDiff, Nat.reduceSub] -- r0
  refine ITri.seq ?_
  refine ITri.seq ?_
  refine ITri.reg pok ?_; simp -implicitDefEqProofs (disch := first | decide | exact of_eq_true (eq_true rfl) | omega | assumption) only [@tk_spec a, @tk_waf s,  ↓vcD, vcE, ↓vcG, vcF, evs, evP, evB, intsOf, fillC, Value.cells, pt, Value.oneCell', reduceIte, reduceCtorEq, Nat.reduceEqDiff, Nat.reduceAdd, Nat.reduceMul, Nat.reduceLT, Nat.reduceBEq, Nat.reduceLeDiff, Nat.reduceSub] -- r1
  refine ⟨_, _, isSpec_f ha (sees0 rfl (of_decide_eq_true rfl)), ?_⟩
  simp -implicitDefEqProofs (disch := first | decide | exact of_eq_true (eq_true rfl) | omega | assumption) only [@tk_waf s, Bool.not_true,  ↓vcD, vcE, ↓vcG, vcF, evs, evP, evB, intsOf, fillC, Value.cells, pt, Value.oneCell', reduceIte, reduceCtorEq, Nat.reduceEqDiff, Nat.reduceAdd, Nat.reduceMul, Nat.reduceLT, Nat.reduceBEq, Nat.reduceLeDiff, Nat.reduceSub]
  refine ⟨_, _, isWafer_f h1 hs (sees0 rfl (of_decide_eq_true rfl)), ?_⟩
  simp -implicitDefEqProofs (disch := first | decide | exact of_eq_true (eq_true rfl) | omega | assumption) only [Bool.not_true,  ↓vcD, vcE, ↓vcG, vcF, evs, evP, evB, intsOf, fillC, Value.cells, pt, Value.oneCell', reduceIte, reduceCtorEq, Nat.reduceEqDiff, Nat.reduceAdd, Nat.reduceMul, Nat.reduceLT, Nat.reduceBEq, Nat.reduceLeDiff, Nat.reduceSub]
  refine ITri.cond (v := false) rfl (fun h => by cases h) (fun _ => ?_); refine ITri.skip ?_; simp only [SeqQ_normal, BlkQ_normal]
  refine ITri.seq ?_
  refine ITri.seq ?_
  refine ITri.reg pok ?_; simp -implicitDefEqProofs (disch := first | decide | exact of_eq_true (eq_true rfl) | omega | assumption) only [@tk_spec a, @tk_waf s,  ↓vcD, vcE, ↓vcG, vcF, evs, evP, evB, intsOf, fillC, Value.cells, pt, Value.oneCell', reduceIte, reduceCtorEq, Nat.reduceEqDiff, Nat.reduceAdd, Nat.reduceMul, Nat.reduceLT, Nat.reduceBEq, Nat.reduceLeDiff, Nat.reduceSub] -- r3
  refine ⟨_, _, fault_f ha hs (sees0 rfl (of_decide_eq_true rfl)), ?_⟩
  rw [if_neg hz]
  try simp -implicitDefEqProofs (disch := first | decide | exact of_eq_true (eq_true rfl) | omega | assumption) only [ ↓vcD, vcE, ↓vcG, vcF, evs, evP, evB, intsOf, fillC, Value.cells, pt, Value.oneCell', reduceIte, reduceCtorEq, Nat.reduceEqDiff, Nat.reduceAdd, Nat.reduceMul, Nat.reduceLT, Nat.reduceBEq, Nat.reduceLeDiff, Nat.reduceSub]
  refine ITri.seq ?_
  refine ITri.reg pok ?_; simp -implicitDefEqProofs (disch := first | decide | exact of_eq_true (eq_true rfl) | omega | assumption) only [hn, decide_true,  ↓vcD, vcE, ↓vcG, vcF, evs, evP, evB, intsOf, fillC, Value.cells, pt, Value.oneCell', reduceIte, reduceCtorEq, Nat.reduceEqDiff, Nat.reduceAdd, Nat.reduceMul, Nat.reduceLT, Nat.reduceBEq, Nat.reduceLeDiff, Nat.reduceSub] -- r4
  refine ITri.cond (v := true) rfl (fun _ => ?_) (fun h => by cases h)
  refine ITri.seq ?_
  refine ITri.reg pok ?_; simp -implicitDefEqProofs (disch := first | decide | exact of_eq_true (eq_true rfl) | omega | assumption) only [ ↓vcD, vcE, ↓vcG, vcF, evs, evP, evB, intsOf, fillC, Value.cells, pt, Value.oneCell', reduceIte, reduceCtorEq, Nat.reduceEqDiff, Nat.reduceAdd, Nat.reduceMul, Nat.reduceLT, Nat.reduceBEq, Nat.reduceLeDiff, Nat.reduceSub] -- r5
  refine ITri.ret ?_; exact EndR.plain (by simp) (by rfl) (by rfl) (by rfl)
theorem certify_nf {a s : Nat} (ha : a < 32) (h1 : 1 ≤ s) (hs : s < 32) (hz : ¬ s &&& a = s) {h : AH} (h0 : h.sees 0 = true) : Fc Tryd.prog 10 [.agg ⟨specL a⟩, .agg ⟨wafL s⟩] h (.tuple #[.slice none 0 0, .int .i64 6, .int .i64 100]) h := Fc.lift0 (certify_n ha h1 hs hz) rfl rfl h0
theorem certify_sf {a s : Nat} (ha : a < 32) (h1 : 1 ≤ s) (hs : s < 32) (hz : s &&& a = s) {h : AH} (h0 : h.sees 0 = true) : Fc Tryd.prog 10 [.agg ⟨specL a⟩, .agg ⟨wafL s⟩] h (.tuple #[.slice (some ⟨h.next, 0, none⟩) 6 openB, .int .i64 0, .int .i64 0]) (h.news [.cells ⟨evs 6, 6, true⟩]) := by
  have := Fc.lift (cs := []) (os := [(6, evs 6, 6)]) (mk := fun ss => [.agg ⟨specL a⟩, .agg ⟨wafL s⟩] ++ ss ++ []) (mkv := fun ss => .tuple ⟨ss ++ [.int .i64 0, .int .i64 0]⟩) (ss := []) (fun caps hc => by
    obtain rfl : caps = [] := List.eq_nil_of_length_eq_zero hc
    exact certify_s ha h1 hs hz) (MkL.mid rfl rfl) (MkV.tup (MkL.app rfl)) (fun p hp => by cases hp) (fun p hp => by
      simp only [List.mem_cons, List.not_mem_nil, or_false] at hp
      subst hp
      exact evs_no) h0 trivial
  exact this
end Go.Proofs.YtfbkbkgjmpbmaaaDoor
