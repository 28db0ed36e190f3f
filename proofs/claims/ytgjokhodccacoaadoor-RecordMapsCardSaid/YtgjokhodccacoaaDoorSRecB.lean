import Derived.Test.YtgjokhodccacoaaDoorSRecA
set_option linter.unusedSimpArgs false
set_option linter.unusedVariables false
namespace Go.Vm
open Go Go.RowKit
structure MvV (mk : Value → Value) : Prop where
 mv : ∀ σ ξ s, Vm.mv σ ξ (mk s) = mk (Vm.mv σ ξ s)
 ok : ∀ ξ B s, okM ξ B s → okM ξ B (mk s)
section
variable {P : Program} {rs : List ResultVar} {l : Fr} {L : List (Option AObj)} {k n b sz : Nat} {cs : List Value} {vs : List Value} {mk : Value → Value} {op : Bool}
theorem end_mk (hmk : MvV mk) (hk : b ≤ k) (hno : noAddrL cs = true) (hL : (L[k]?).join = some (.cells ⟨cs, sz, true⟩)) (hr : resF P l (Hp b L) rs = some vs) (hv : packV vs = mk (.slice (some ⟨k, 0, none⟩) n openB)) :
    EndR P rs b [.cells ⟨cs, sz, true⟩] (mk (.slice (some ⟨b, 0, none⟩) n openB)) .ret l [] (Hp b L) := by
 refine ⟨by simp, rfl, vs, [k], [], hr, rfl, by simp, by simpa using hk, (fun p hp => by cases hp), ?_, hmk.ok _ _ _ ?_, fun i o2 h => .inr ?_⟩
 ·rw [hv, hmk.mv]
  congr 1
  show _ = mvS .same ⟨(fun k' => if k' < b then k' else [k].getD (k' - b) 0) b, 0, none⟩ n openB
  simp [mvS]
 ·exact ⟨by simp, trivial⟩
 ·match i, h with
  | 0, h =>
   cases h
   refine ⟨(by intro e; cases e), _, (by show (Hp b L).get k = _; rw [Hp_get]; exact hL), ?_⟩
   exact ⟨(mvL_noAddr _ _ _ hno).symm, okML_noAddr _ _ _ hno, fun e => e, fun e => ⟨e, rfl⟩⟩
theorem end_room (C : Nat) (hmk : MvV mk) (hk : b ≤ k) (hC : C ≤ 16777216) (hnC : n ≤ C) (hno : noAddrL cs = true) (hL : (L[k]?).join = some (.cells ⟨cs, sz, op⟩)) (hsz : sz ≠ 0) (hl : C * sz = cs.length) (hr : resF P l (Hp b L) rs = some vs) (hv : packV vs = mk (.slice (some ⟨k, 0, none⟩) n C)) :
    EndR P rs b [.cells ⟨cs, sz, true⟩] (mk (.slice (some ⟨b, 0, none⟩) n openB)) .ret l [] (Hp b L) := by
 have x1 : xiL [(b, Xi.room C)] b = .room C := by simp [xiL]
 have x0 : xiL [(b, Xi.room C)] (b + 0) = .room C := x1
 have ho : C < openB := by unfold openB; omega
 refine ⟨by simp, rfl, vs, [k], [(b, .room C)], hr, rfl, by simp, by simpa using hk, (fun p hp => by simp at hp; subst hp; exact ⟨Nat.le_refl _, roomOK C hC⟩), ?_, hmk.ok _ _ _ ?_, fun i o2 h => .inr ?_⟩
 ·rw [hv, hmk.mv]
  congr 1
  show _ = mvS (xiL [(b, .room C)] b) ⟨(fun k' => if k' < b then k' else [k].getD (k' - b) 0) b, 0, none⟩ n openB
  rw [x1]
  simp [mvS]
 ·refine ⟨by simp, ?_⟩
  show okS (xiL [(b, .room C)] b) n openB
  rw [x1]
  intro _
  exact ⟨by omega, by omega⟩
 ·match i, h with
  | 0, h =>
   cases h
   rw [x0]
   refine ⟨(by intro e; cases e), _, (by show (Hp b L).get k = _; rw [Hp_get]; exact hL), ?_⟩
   refine ⟨(mvL_noAddr _ _ _ hno).symm, okML_noAddr _ _ _ hno, fun e => e, fun e => ?_⟩
   rw [x0]
   exact ⟨Nat.le_of_eq hl, fun z1 => by simp only at z1 ⊢; rw [z1] at hl; omega⟩
theorem end_nil (hmk : MvV mk) (hr : resF P l (Hp b L) rs = some vs) (hv : packV vs = mk (.slice none 0 0)) :
    EndR P rs b [.cells ⟨[], sz, true⟩] (mk (.slice (some ⟨b, 0, none⟩) 0 openB)) .ret l [] (Hp b L) := by
 refine ⟨by simp, rfl, vs, [b], [(b, .nil)], hr, rfl, by simp, by simp, (fun p hp => by simp at hp; subst hp; exact ⟨Nat.le_refl _, trivial⟩), ?_, hmk.ok _ _ _ ?_, fun i o2 h => .inl ?_⟩
 ·rw [hv, hmk.mv]
  congr 1
  show _ = mvS (xiL [(b, .nil)] b) _ 0 openB
  simp [mvS, xiL]
 ·refine ⟨by show b < b + 1; omega, ?_⟩
  show okS (xiL [(b, .nil)] b) 0 openB
  simp [xiL, okS]
 ·match i, h with
  | 0, h =>
   cases h
   exact ⟨by simp [xiL], rfl⟩
end
end Go.Vm
namespace Go.Proofs.YtgjokhodccacoaaDoor
open Go.RowKit Go.Vm
set_option maxRecDepth 100000
theorem mvM (W H : Int) : MvV fun s => .agg #[.int .i64 W, .int .i64 H, s] := ⟨fun _ _ _ => rfl, fun _ _ _ h => ⟨trivial, trivial, h, trivial⟩⟩
theorem mkM (W H : Int) : MkL fun ss => [.agg ⟨[Value.int .i64 W, .int .i64 H] ++ ss ++ []⟩] := MkL.agg1 (MkL.mid rfl rfl) rfl
theorem take_all_snoc {α : Type} [Inhabited α] {f : α → Bool} {xs : List α} {i : Nat} (hi : i < xs.length) : (xs.take (i + 1)).all f = ((xs.take i).all f && f (nth xs i)) := by
 rw [take_nth hi, List.all_append]
 simp
theorem map_c (n c : Nat) (W H : Int) (xs : List Int) (hn : xs.length = n) (hb : n ≤ 1000000) :
    Fc Tryd.prog 39 [mV 1 n c W H] (Hp 2 [none, some (.cells ⟨rows eN xs, 0, false⟩)]) (.bool (mOK W H xs)) (Hp 2 [none, some (.cells ⟨rows eN xs, 0, false⟩)]) := by
 refine Fc.intro0 fn39 (by simp) rfl rfl ?_; simp only [argF]
 refine ITri.seq ?_
 refine ITri.reg pok ?_; simp -implicitDefEqProofs (disch := first | decide | exact of_eq_true (eq_true rfl) | omega | assumption) only [ ↓vcD, vcE, ↓vcG, vcF, evs, evP, evB, intsOf, fillC, Value.cells, pt, Value.oneCell', reduceIte, reduceCtorEq, Nat.reduceEqDiff, Nat.reduceAdd, Nat.reduceMul, Nat.reduceLT, Nat.reduceBEq, Nat.reduceLeDiff, Nat.reduceSub]
 refine ITri.seq ?_
 refine ITri.seq ?_
 by_cases g1 : W < 1
 ·rw [show mOK W H xs = false by unfold mOK inT; rw [decide_eq_false (show ¬ 1 ≤ W by omega)]; rfl]
  refine ITri.reg pok ?_; simp -implicitDefEqProofs (disch := first | decide | exact of_eq_true (eq_true rfl) | omega | assumption) only [g1, decide_true,  ↓vcD, vcE, ↓vcG, vcF, evs, evP, evB, intsOf, fillC, Value.cells, pt, Value.oneCell', reduceIte, reduceCtorEq, Nat.reduceEqDiff, Nat.reduceAdd, Nat.reduceMul, Nat.reduceLT, Nat.reduceBEq, Nat.reduceLeDiff, Nat.reduceSub]
  refine ITri.cond (v := true) rfl (fun _ => ?_) (fun h => by cases h)
  refine ITri.seq ?_
  refine ITri.reg pok ?_; simp -implicitDefEqProofs (disch := first | decide | exact of_eq_true (eq_true rfl) | omega | assumption) only [ ↓vcD, vcE, ↓vcG, vcF, evs, evP, evB, intsOf, fillC, Value.cells, pt, Value.oneCell', reduceIte, reduceCtorEq, Nat.reduceEqDiff, Nat.reduceAdd, Nat.reduceMul, Nat.reduceLT, Nat.reduceBEq, Nat.reduceLeDiff, Nat.reduceSub]
  refine ITri.ret ?_; exact EndR.plain (by simp) (by rfl) (by rfl) (by rfl)
 by_cases g2 : 60 < W
 ·rw [show mOK W H xs = false by unfold mOK inT; rw [decide_eq_false (show ¬ W ≤ 60 by omega)]; simp]
  refine ITri.reg pok ?_; simp -implicitDefEqProofs (disch := first | decide | exact of_eq_true (eq_true rfl) | omega | assumption) only [g1, g2, decide_true, decide_false,  ↓vcD, vcE, ↓vcG, vcF, evs, evP, evB, intsOf, fillC, Value.cells, pt, Value.oneCell', reduceIte, reduceCtorEq, Nat.reduceEqDiff, Nat.reduceAdd, Nat.reduceMul, Nat.reduceLT, Nat.reduceBEq, Nat.reduceLeDiff, Nat.reduceSub]
  refine ITri.cond (v := true) rfl (fun _ => ?_) (fun h => by cases h)
  refine ITri.seq ?_
  refine ITri.reg pok ?_; simp -implicitDefEqProofs (disch := first | decide | exact of_eq_true (eq_true rfl) | omega | assumption) only [ ↓vcD, vcE, ↓vcG, vcF, evs, evP, evB, intsOf, fillC, Value.cells, pt, Value.oneCell', reduceIte, reduceCtorEq, Nat.reduceEqDiff, Nat.reduceAdd, Nat.reduceMul, Nat.reduceLT, Nat.reduceBEq, Nat.reduceLeDiff, Nat.reduceSub]
  refine ITri.ret ?_; exact EndR.plain (by simp) (by rfl) (by rfl) (by rfl)
 have i1 : inT W 1 60 = true := by unfold inT; rw [decide_eq_true (show 1 ≤ W by omega), decide_eq_true (show W ≤ 60 by omega)]; rfl
 by_cases g3 : H < 1
 ·rw [show mOK W H xs = false by unfold mOK; rw [i1]; unfold inT; rw [decide_eq_false (show ¬ 1 ≤ H by omega)]; rfl]
  refine ITri.reg pok ?_; simp -implicitDefEqProofs (disch := first | decide | exact of_eq_true (eq_true rfl) | omega | assumption) only [g1, g2, g3, decide_true, decide_false,  ↓vcD, vcE, ↓vcG, vcF, evs, evP, evB, intsOf, fillC, Value.cells, pt, Value.oneCell', reduceIte, reduceCtorEq, Nat.reduceEqDiff, Nat.reduceAdd, Nat.reduceMul, Nat.reduceLT, Nat.reduceBEq, Nat.reduceLeDiff, Nat.reduceSub]
  refine ITri.cond (v := true) rfl (fun _ => ?_) (fun h => by cases h)
  refine ITri.seq ?_
  refine ITri.reg pok ?_; simp -implicitDefEqProofs (disch := first | decide | exact of_eq_true (eq_true rfl) | omega | assumption) only [ ↓vcD, vcE, ↓vcG, vcF, evs, evP, evB, intsOf, fillC, Value.cells, pt, Value.oneCell', reduceIte, reduceCtorEq, Nat.reduceEqDiff, Nat.reduceAdd, Nat.reduceMul, Nat.reduceLT, Nat.reduceBEq, Nat.reduceLeDiff, Nat.reduceSub]
  refine ITri.ret ?_; exact EndR.plain (by simp) (by rfl) (by rfl) (by rfl)
 by_cases g4 : 60 < H
 ·rw [show mOK W H xs = false by unfold mOK; rw [i1]; unfold inT; rw [decide_eq_false (show ¬ H ≤ 60 by omega)]; simp]
  refine ITri.reg pok ?_; simp -implicitDefEqProofs (disch := first | decide | exact of_eq_true (eq_true rfl) | omega | assumption) only [g1, g2, g3, g4, decide_true, decide_false,  ↓vcD, vcE, ↓vcG, vcF, evs, evP, evB, intsOf, fillC, Value.cells, pt, Value.oneCell', reduceIte, reduceCtorEq, Nat.reduceEqDiff, Nat.reduceAdd, Nat.reduceMul, Nat.reduceLT, Nat.reduceBEq, Nat.reduceLeDiff, Nat.reduceSub]
  refine ITri.cond (v := true) rfl (fun _ => ?_) (fun h => by cases h)
  refine ITri.seq ?_
  refine ITri.reg pok ?_; simp -implicitDefEqProofs (disch := first | decide | exact of_eq_true (eq_true rfl) | omega | assumption) only [ ↓vcD, vcE, ↓vcG, vcF, evs, evP, evB, intsOf, fillC, Value.cells, pt, Value.oneCell', reduceIte, reduceCtorEq, Nat.reduceEqDiff, Nat.reduceAdd, Nat.reduceMul, Nat.reduceLT, Nat.reduceBEq, Nat.reduceLeDiff, Nat.reduceSub]
  refine ITri.ret ?_; exact EndR.plain (by simp) (by rfl) (by rfl) (by rfl)
 have i2 : inT H 1 60 = true := by unfold inT; rw [decide_eq_true (show 1 ≤ H by omega), decide_eq_true (show H ≤ 60 by omega)]; rfl
 obtain ⟨m1, m2⟩ := mul_bd i1 i2
 by_cases g5 : (n : Int) = W * H
 ·refine ITri.reg pok ?_; simp -implicitDefEqProofs (disch := first | decide | exact of_eq_true (eq_true rfl) | omega | assumption) only [g1, g2, g3, g4, g5, decide_true, decide_false, ne_eq, not_true_eq_false,  ↓vcD, vcE, ↓vcG, vcF, evs, evP, evB, intsOf, fillC, Value.cells, pt, Value.oneCell', reduceIte, reduceCtorEq, Nat.reduceEqDiff, Nat.reduceAdd, Nat.reduceMul, Nat.reduceLT, Nat.reduceBEq, Nat.reduceLeDiff, Nat.reduceSub]
  refine ITri.cond (v := false) rfl (fun h => by cases h) (fun _ => ?_); refine ITri.skip ?_; simp only [SeqQ_normal, BlkQ_normal]
  refine ITri.seq ?_
  refine ITri.seq ?_
  refine ITri.reg pok ?_; simp -implicitDefEqProofs (disch := first | decide | exact of_eq_true (eq_true rfl) | omega | assumption) only [ ↓vcD, vcE, ↓vcG, vcF, evs, evP, evB, intsOf, fillC, Value.cells, pt, Value.oneCell', reduceIte, reduceCtorEq, Nat.reduceEqDiff, Nat.reduceAdd, Nat.reduceMul, Nat.reduceLT, Nat.reduceBEq, Nat.reduceLeDiff, Nat.reduceSub]
  refine ITri.block ?_
  refine ITri.loop (fun k : Nat => [(1, .pointer (some ⟨2, 0, none⟩)), (3, .int .i64 k)]) (fun _ => []) (fun k => Hp 2 [none, some (.cells ⟨rows eN xs, 0, false⟩), some (.cells ⟨[.int .i64 W, .int .i64 H, .slice (some ⟨1, 0, none⟩) n c], 1, false⟩)]) (fun k => k ≤ n ∧ (xs.take k).all (fun c => inT c 0 7) = true) (fun k => n - k) 0 ⟨by omega, rfl⟩ (Wk.sub ⟨rfl, rfl, trivial⟩) fun k hk => ?_
  obtain ⟨hk, ha⟩ := hk
  refine ITri.seq ?_
  refine ITri.seq ?_
  refine ITri.reg pok ?_; simp -implicitDefEqProofs (disch := first | decide | exact of_eq_true (eq_true rfl) | omega | assumption) only [ ↓vcD, vcE, ↓vcG, vcF, evs, evP, evB, intsOf, fillC, Value.cells, pt, Value.oneCell', reduceIte, reduceCtorEq, Nat.reduceEqDiff, Nat.reduceAdd, Nat.reduceMul, Nat.reduceLT, Nat.reduceBEq, Nat.reduceLeDiff, Nat.reduceSub]
  refine ITri.condD (by rfl) (fun h3 => ?_) (fun h3 => ?_)
  ·have hkx : k < xs.length := by omega
   have gk := getN hkx
   have hs := take_all_snoc (f := fun c => inT c 0 7) hkx
   rw [ha, Bool.true_and] at hs
   have bad : inT (nth xs k) 0 7 = false → mOK W H xs = false := by
    intro hf
    unfold mOK
    rw [List.all_eq_false.2 ⟨nth xs k, nth_mem hkx, by rw [hf]; simp⟩, Bool.and_false]
   refine ITri.skip ?_; simp only [SeqQ_normal, BlkQ_normal]
   refine ITri.seq ?_
   refine ITri.block ?_
   refine ITri.seq ?_
   by_cases q1 : nth xs k < 0
   ·rw [bad (by unfold inT; rw [decide_eq_false (show ¬ 0 ≤ nth xs k by omega)]; rfl)]
    refine ITri.reg pok ?_; simp -implicitDefEqProofs (disch := first | decide | exact of_eq_true (eq_true rfl) | omega | assumption) only [gk, q1, decide_true,  ↓vcD, vcE, ↓vcG, vcF, evs, evP, evB, intsOf, fillC, Value.cells, pt, Value.oneCell', reduceIte, reduceCtorEq, Nat.reduceEqDiff, Nat.reduceAdd, Nat.reduceMul, Nat.reduceLT, Nat.reduceBEq, Nat.reduceLeDiff, Nat.reduceSub]
    refine ITri.cond (v := true) rfl (fun _ => ?_) (fun h => by cases h)
    refine ITri.seq ?_
    refine ITri.reg pok ?_; simp -implicitDefEqProofs (disch := first | decide | exact of_eq_true (eq_true rfl) | omega | assumption) only [ ↓vcD, vcE, ↓vcG, vcF, evs, evP, evB, intsOf, fillC, Value.cells, pt, Value.oneCell', reduceIte, reduceCtorEq, Nat.reduceEqDiff, Nat.reduceAdd, Nat.reduceMul, Nat.reduceLT, Nat.reduceBEq, Nat.reduceLeDiff, Nat.reduceSub]
    refine ITri.ret ?_; exact EndR.plain (by simp) (by rfl) (by rfl) (by rfl)
   by_cases q2 : 7 < nth xs k
   ·rw [bad (by unfold inT; rw [decide_eq_false (show ¬ nth xs k ≤ 7 by omega)]; simp)]
    refine ITri.reg pok ?_; simp -implicitDefEqProofs (disch := first | decide | exact of_eq_true (eq_true rfl) | omega | assumption) only [gk, q1, q2, decide_true, decide_false,  ↓vcD, vcE, ↓vcG, vcF, evs, evP, evB, intsOf, fillC, Value.cells, pt, Value.oneCell', reduceIte, reduceCtorEq, Nat.reduceEqDiff, Nat.reduceAdd, Nat.reduceMul, Nat.reduceLT, Nat.reduceBEq, Nat.reduceLeDiff, Nat.reduceSub]
    refine ITri.cond (v := true) rfl (fun _ => ?_) (fun h => by cases h)
    refine ITri.seq ?_
    refine ITri.reg pok ?_; simp -implicitDefEqProofs (disch := first | decide | exact of_eq_true (eq_true rfl) | omega | assumption) only [ ↓vcD, vcE, ↓vcG, vcF, evs, evP, evB, intsOf, fillC, Value.cells, pt, Value.oneCell', reduceIte, reduceCtorEq, Nat.reduceEqDiff, Nat.reduceAdd, Nat.reduceMul, Nat.reduceLT, Nat.reduceBEq, Nat.reduceLeDiff, Nat.reduceSub]
    refine ITri.ret ?_; exact EndR.plain (by simp) (by rfl) (by rfl) (by rfl)
   refine ITri.reg pok ?_; simp -implicitDefEqProofs (disch := first | decide | exact of_eq_true (eq_true rfl) | omega | assumption) only [gk, q1, q2, decide_false,  ↓vcD, vcE, ↓vcG, vcF, evs, evP, evB, intsOf, fillC, Value.cells, pt, Value.oneCell', reduceIte, reduceCtorEq, Nat.reduceEqDiff, Nat.reduceAdd, Nat.reduceMul, Nat.reduceLT, Nat.reduceBEq, Nat.reduceLeDiff, Nat.reduceSub]
   refine ITri.cond (v := false) rfl (fun h => by cases h) (fun _ => ?_); refine ITri.skip ?_; simp only [SeqQ_normal, BlkQ_normal]
   refine ITri.reg pok ?_; simp -implicitDefEqProofs (disch := first | decide | exact of_eq_true (eq_true rfl) | omega | assumption) only [ ↓vcD, vcE, ↓vcG, vcF, evs, evP, evB, intsOf, fillC, Value.cells, pt, Value.oneCell', reduceIte, reduceCtorEq, Nat.reduceEqDiff, Nat.reduceAdd, Nat.reduceMul, Nat.reduceLT, Nat.reduceBEq, Nat.reduceLeDiff, Nat.reduceSub]
   refine LoopQ.next (k + 1) ⟨by omega, by rw [hs]; unfold inT; rw [decide_eq_true (show 0 ≤ nth xs k by omega), decide_eq_true (show nth xs k ≤ 7 by omega)]; rfl⟩ (by omega) (Wk.sub ⟨rfl, rfl, trivial⟩)
  refine ITri.exit ?_; try simp -implicitDefEqProofs (disch := first | decide | exact of_eq_true (eq_true rfl) | omega | assumption) only [ ↓vcD, vcE, ↓vcG, vcF, evs, evP, evB, intsOf, fillC, Value.cells, pt, Value.oneCell', reduceIte, reduceCtorEq, Nat.reduceEqDiff, Nat.reduceAdd, Nat.reduceMul, Nat.reduceLT, Nat.reduceBEq, Nat.reduceLeDiff, Nat.reduceSub]
  obtain rfl : n = k := by omega
  rw [← hn, List.take_length] at ha
  rw [show mOK W H xs = true by unfold mOK; rw [i1, i2, ha, hn, decide_eq_true g5]; rfl]
  refine ITri.seq ?_
  refine ITri.reg pok ?_; simp -implicitDefEqProofs (disch := first | decide | exact of_eq_true (eq_true rfl) | omega | assumption) only [ ↓vcD, vcE, ↓vcG, vcF, evs, evP, evB, intsOf, fillC, Value.cells, pt, Value.oneCell', reduceIte, reduceCtorEq, Nat.reduceEqDiff, Nat.reduceAdd, Nat.reduceMul, Nat.reduceLT, Nat.reduceBEq, Nat.reduceLeDiff, Nat.reduceSub]
  refine ITri.ret ?_; exact EndR.plain (by simp) (by rfl) (by rfl) (by rfl)
 ·rw [show mOK W H xs = false by unfold mOK; rw [hn, decide_eq_false g5, Bool.and_false]; rfl]
  refine ITri.reg pok ?_; simp -implicitDefEqProofs (disch := first | decide | exact of_eq_true (eq_true rfl) | omega | assumption) only [g1, g2, g3, g4, g5, decide_true, decide_false, ne_eq, not_false_eq_true,  ↓vcD, vcE, ↓vcG, vcF, evs, evP, evB, intsOf, fillC, Value.cells, pt, Value.oneCell', reduceIte, reduceCtorEq, Nat.reduceEqDiff, Nat.reduceAdd, Nat.reduceMul, Nat.reduceLT, Nat.reduceBEq, Nat.reduceLeDiff, Nat.reduceSub]
  refine ITri.cond (v := true) rfl (fun _ => ?_) (fun h => by cases h)
  refine ITri.seq ?_
  refine ITri.reg pok ?_; simp -implicitDefEqProofs (disch := first | decide | exact of_eq_true (eq_true rfl) | omega | assumption) only [ ↓vcD, vcE, ↓vcG, vcF, evs, evP, evB, intsOf, fillC, Value.cells, pt, Value.oneCell', reduceIte, reduceCtorEq, Nat.reduceEqDiff, Nat.reduceAdd, Nat.reduceMul, Nat.reduceLT, Nat.reduceBEq, Nat.reduceLeDiff, Nat.reduceSub]
  refine ITri.ret ?_; exact EndR.plain (by simp) (by rfl) (by rfl) (by rfl)
theorem own_c (n c : Nat) (W H : Int) (xs : List Int) (hn : xs.length = n) (hb : n ≤ 1000000) :
    Fc Tryd.prog 35 [mV 1 n c W H] (Hp 2 [none, some (.cells ⟨rows eN xs, 0, false⟩)]) (mV 2 n openB W H) ((Hp 2 [none, some (.cells ⟨rows eN xs, 0, false⟩)]).news [.cells ⟨rows eN xs, 1, true⟩]) := by
 refine Fc.introR fn35 (by simp) rfl rfl ?_; simp only [argF]
 have hl : (rows eN xs).length = n * 1 := by rw [rows_len, hn]
 refine ITri.seq ?_
 refine ITri.reg pok ?_; simp -implicitDefEqProofs (disch := first | decide | exact of_eq_true (eq_true rfl) | omega | assumption) only [ ↓vcD, vcE, ↓vcG, vcF, evs, evP, evB, intsOf, fillC, Value.cells, pt, Value.oneCell', reduceIte, reduceCtorEq, Nat.reduceEqDiff, Nat.reduceAdd, Nat.reduceMul, Nat.reduceLT, Nat.reduceBEq, Nat.reduceLeDiff, Nat.reduceSub]
 refine ITri.seq ?_
 by_cases h0 : n = 0
 ·subst h0
  obtain rfl := List.eq_nil_of_length_eq_zero hn
  refine ITri.draw pok ?_; simp -implicitDefEqProofs (disch := first | decide | exact of_eq_true (eq_true rfl) | omega | assumption) only [appK_0,  ↓vcD, vcE, ↓vcG, vcF, evs, evP, evB, intsOf, fillC, Value.cells, pt, Value.oneCell', reduceIte, reduceCtorEq, Nat.reduceEqDiff, Nat.reduceAdd, Nat.reduceMul, Nat.reduceLT, Nat.reduceBEq, Nat.reduceLeDiff, Nat.reduceSub]
  refine ITri.ret ?_
  exact end_room (k := 4) (cs := []) (op := false) (n := 0) (mk := fun s => .agg #[.int .i64 W, .int .i64 H, s]) 0 (mvM W H) (by decide) (by decide) (by decide) rfl rfl (by decide) (by first | rfl | simp) (resF_agg 3 rfl (by kernel_rfl) (by simp -implicitDefEqProofs (disch := first | decide | exact of_eq_true (eq_true rfl) | omega | assumption) only [↓vcD, vcE, ↓vcG, vcF, evs, evP, evB, intsOf, fillC, Value.cells, pt, Value.oneCell', reduceIte, reduceCtorEq, Nat.reduceEqDiff, Nat.reduceAdd, Nat.reduceMul, Nat.reduceLT, Nat.reduceBEq, Nat.reduceLeDiff, Nat.reduceSub]) resF_nil) rfl
 ·refine ITri.draw pok ?_; simp -implicitDefEqProofs (disch := first | decide | exact of_eq_true (eq_true rfl) | omega | assumption) only [hl, rows_allT,  ↓vcD, vcE, ↓vcG, vcF, evs, evP, evB, intsOf, fillC, Value.cells, pt, Value.oneCell', reduceIte, reduceCtorEq, Nat.reduceEqDiff, Nat.reduceAdd, Nat.reduceMul, Nat.reduceLT, Nat.reduceBEq, Nat.reduceLeDiff, Nat.reduceSub]
  refine ITri.ret ?_
  exact end_mk (k := 5) (n := n) (mk := fun s => .agg #[.int .i64 W, .int .i64 H, s]) (mvM W H) (by decide) (rows_no (f := eN) _) rfl (resF_agg 3 rfl (by kernel_rfl) (by simp -implicitDefEqProofs (disch := first | decide | exact of_eq_true (eq_true rfl) | omega | assumption) only [↓vcD, vcE, ↓vcG, vcF, evs, evP, evB, intsOf, fillC, Value.cells, pt, Value.oneCell', reduceIte, reduceCtorEq, Nat.reduceEqDiff, Nat.reduceAdd, Nat.reduceMul, Nat.reduceLT, Nat.reduceBEq, Nat.reduceLeDiff, Nat.reduceSub]) resF_nil) rfl
def sameM (W H W' H' : Int) (xs ys : List Int) : Bool := decide (W = W') && decide (H = H') && decide (xs = ys)
theorem take_eq {xs ys : List Int} {k : Nat} (h1 : k < xs.length) (h2 : k < ys.length) (h : xs.take k = ys.take k) (he : nth xs k = nth ys k) : xs.take (k + 1) = ys.take (k + 1) := by
 rw [take_nth h1, take_nth h2, h, he]
theorem same_c (n c m d : Nat) (W H W' H' : Int) (xs ys : List Int) (hn : xs.length = n) (hm : ys.length = m) (hb : n ≤ 1000000) (hb2 : m ≤ 1000000) :
    Fc Tryd.prog 40 [mV 1 n c W H, mV 2 m d W' H'] (Hp 3 [none, some (.cells ⟨rows eN xs, 0, false⟩), some (.cells ⟨rows eN ys, 0, false⟩)]) (.bool (sameM W H W' H' xs ys)) (Hp 3 [none, some (.cells ⟨rows eN xs, 0, false⟩), some (.cells ⟨rows eN ys, 0, false⟩)]) := by
 refine Fc.intro0 fn40 (by simp) rfl rfl ?_; simp only [argF]
 refine ITri.seq ?_
 refine ITri.reg pok ?_; simp -implicitDefEqProofs (disch := first | decide | exact of_eq_true (eq_true rfl) | omega | assumption) only [ ↓vcD, vcE, ↓vcG, vcF, evs, evP, evB, intsOf, fillC, Value.cells, pt, Value.oneCell', reduceIte, reduceCtorEq, Nat.reduceEqDiff, Nat.reduceAdd, Nat.reduceMul, Nat.reduceLT, Nat.reduceBEq, Nat.reduceLeDiff, Nat.reduceSub]
 refine ITri.seq ?_
 refine ITri.seq ?_
 by_cases g1 : W = W'
 case neg =>
  rw [show sameM W H W' H' xs ys = false by unfold sameM; rw [decide_eq_false g1]; rfl]
  refine ITri.reg pok ?_; simp -implicitDefEqProofs (disch := first | decide | exact of_eq_true (eq_true rfl) | omega | assumption) only [g1, decide_true, decide_false, ne_eq, not_false_eq_true,  ↓vcD, vcE, ↓vcG, vcF, evs, evP, evB, intsOf, fillC, Value.cells, pt, Value.oneCell', reduceIte, reduceCtorEq, Nat.reduceEqDiff, Nat.reduceAdd, Nat.reduceMul, Nat.reduceLT, Nat.reduceBEq, Nat.reduceLeDiff, Nat.reduceSub]
  refine ITri.cond (v := true) rfl (fun _ => ?_) (fun h => by cases h)
  refine ITri.seq ?_
  refine ITri.reg pok ?_; simp -implicitDefEqProofs (disch := first | decide | exact of_eq_true (eq_true rfl) | omega | assumption) only [ ↓vcD, vcE, ↓vcG, vcF, evs, evP, evB, intsOf, fillC, Value.cells, pt, Value.oneCell', reduceIte, reduceCtorEq, Nat.reduceEqDiff, Nat.reduceAdd, Nat.reduceMul, Nat.reduceLT, Nat.reduceBEq, Nat.reduceLeDiff, Nat.reduceSub]
  refine ITri.ret ?_; exact EndR.plain (by simp) (by rfl) (by rfl) (by rfl)
 by_cases g2 : H = H'
 case neg =>
  rw [show sameM W H W' H' xs ys = false by unfold sameM; rw [decide_eq_false g2, Bool.and_false]; rfl]
  refine ITri.reg pok ?_; simp -implicitDefEqProofs (disch := first | decide | exact of_eq_true (eq_true rfl) | omega | assumption) only [g1, g2, decide_true, decide_false, ne_eq, not_false_eq_true, not_true_eq_false,  ↓vcD, vcE, ↓vcG, vcF, evs, evP, evB, intsOf, fillC, Value.cells, pt, Value.oneCell', reduceIte, reduceCtorEq, Nat.reduceEqDiff, Nat.reduceAdd, Nat.reduceMul, Nat.reduceLT, Nat.reduceBEq, Nat.reduceLeDiff, Nat.reduceSub]
  refine ITri.cond (v := true) rfl (fun _ => ?_) (fun h => by cases h)
  refine ITri.seq ?_
  refine ITri.reg pok ?_; simp -implicitDefEqProofs (disch := first | decide | exact of_eq_true (eq_true rfl) | omega | assumption) only [ ↓vcD, vcE, ↓vcG, vcF, evs, evP, evB, intsOf, fillC, Value.cells, pt, Value.oneCell', reduceIte, reduceCtorEq, Nat.reduceEqDiff, Nat.reduceAdd, Nat.reduceMul, Nat.reduceLT, Nat.reduceBEq, Nat.reduceLeDiff, Nat.reduceSub]
  refine ITri.ret ?_; exact EndR.plain (by simp) (by rfl) (by rfl) (by rfl)
 by_cases g3 : n = m
 case neg =>
  have g3' : ¬ ((n : Int) = (m : Int)) := by omega
  have g4 : xs ≠ ys := fun e => g3 (by rw [← hn, ← hm, e])
  rw [show sameM W H W' H' xs ys = false by unfold sameM; rw [decide_eq_false g4, Bool.and_false]]
  refine ITri.reg pok ?_; simp -implicitDefEqProofs (disch := first | decide | exact of_eq_true (eq_true rfl) | omega | assumption) only [g1, g2, g3', decide_true, decide_false, ne_eq, not_false_eq_true, not_true_eq_false,  ↓vcD, vcE, ↓vcG, vcF, evs, evP, evB, intsOf, fillC, Value.cells, pt, Value.oneCell', reduceIte, reduceCtorEq, Nat.reduceEqDiff, Nat.reduceAdd, Nat.reduceMul, Nat.reduceLT, Nat.reduceBEq, Nat.reduceLeDiff, Nat.reduceSub]
  refine ITri.cond (v := true) rfl (fun _ => ?_) (fun h => by cases h)
  refine ITri.seq ?_
  refine ITri.reg pok ?_; simp -implicitDefEqProofs (disch := first | decide | exact of_eq_true (eq_true rfl) | omega | assumption) only [ ↓vcD, vcE, ↓vcG, vcF, evs, evP, evB, intsOf, fillC, Value.cells, pt, Value.oneCell', reduceIte, reduceCtorEq, Nat.reduceEqDiff, Nat.reduceAdd, Nat.reduceMul, Nat.reduceLT, Nat.reduceBEq, Nat.reduceLeDiff, Nat.reduceSub]
  refine ITri.ret ?_; exact EndR.plain (by simp) (by rfl) (by rfl) (by rfl)
 subst g1 g2 g3
 refine ITri.reg pok ?_; simp -implicitDefEqProofs (disch := first | decide | exact of_eq_true (eq_true rfl) | omega | assumption) only [decide_true, decide_false, ne_eq, not_true_eq_false,  ↓vcD, vcE, ↓vcG, vcF, evs, evP, evB, intsOf, fillC, Value.cells, pt, Value.oneCell', reduceIte, reduceCtorEq, Nat.reduceEqDiff, Nat.reduceAdd, Nat.reduceMul, Nat.reduceLT, Nat.reduceBEq, Nat.reduceLeDiff, Nat.reduceSub]
 refine ITri.cond (v := false) rfl (fun h => by cases h) (fun _ => ?_); refine ITri.skip ?_; simp only [SeqQ_normal, BlkQ_normal]
 refine ITri.seq ?_
 refine ITri.seq ?_
 refine ITri.reg pok ?_; simp -implicitDefEqProofs (disch := first | decide | exact of_eq_true (eq_true rfl) | omega | assumption) only [ ↓vcD, vcE, ↓vcG, vcF, evs, evP, evB, intsOf, fillC, Value.cells, pt, Value.oneCell', reduceIte, reduceCtorEq, Nat.reduceEqDiff, Nat.reduceAdd, Nat.reduceMul, Nat.reduceLT, Nat.reduceBEq, Nat.reduceLeDiff, Nat.reduceSub]
 refine ITri.block ?_
 refine ITri.loop (fun k : Nat => [(2, .pointer (some ⟨3, 0, none⟩)), (3, .pointer (some ⟨4, 0, none⟩)), (5, .int .i64 k)]) (fun _ => []) (fun k => Hp 3 [none, some (.cells ⟨rows eN xs, 0, false⟩), some (.cells ⟨rows eN ys, 0, false⟩), some (.cells ⟨[.int .i64 W, .int .i64 H, .slice (some ⟨1, 0, none⟩) n c], 1, false⟩), some (.cells ⟨[.int .i64 W, .int .i64 H, .slice (some ⟨2, 0, none⟩) n d], 1, false⟩)]) (fun k => k ≤ n ∧ xs.take k = ys.take k) (fun k => n - k) 0 ⟨by omega, rfl⟩ (Wk.sub ⟨rfl, rfl, rfl, trivial⟩) fun k hk => ?_
 obtain ⟨hk, ha⟩ := hk
 refine ITri.seq ?_
 refine ITri.seq ?_
 refine ITri.reg pok ?_; simp -implicitDefEqProofs (disch := first | decide | exact of_eq_true (eq_true rfl) | omega | assumption) only [ ↓vcD, vcE, ↓vcG, vcF, evs, evP, evB, intsOf, fillC, Value.cells, pt, Value.oneCell', reduceIte, reduceCtorEq, Nat.reduceEqDiff, Nat.reduceAdd, Nat.reduceMul, Nat.reduceLT, Nat.reduceBEq, Nat.reduceLeDiff, Nat.reduceSub]
 refine ITri.condD (by rfl) (fun h3 => ?_) (fun h3 => ?_)
 ·have gx := getN (xs := xs) (i := k) (by omega)
  have gy := getN (xs := ys) (i := k) (by omega)
  refine ITri.skip ?_; simp only [SeqQ_normal, BlkQ_normal]
  refine ITri.seq ?_
  refine ITri.block ?_
  refine ITri.seq ?_
  by_cases q : nth xs k = nth ys k
  ·refine ITri.draw pok ?_; simp -implicitDefEqProofs (disch := first | decide | exact of_eq_true (eq_true rfl) | omega | assumption) only [gx, gy, q, decide_false, ne_eq, not_true_eq_false,  ↓vcD, vcE, ↓vcG, vcF, evs, evP, evB, intsOf, fillC, Value.cells, pt, Value.oneCell', reduceIte, reduceCtorEq, Nat.reduceEqDiff, Nat.reduceAdd, Nat.reduceMul, Nat.reduceLT, Nat.reduceBEq, Nat.reduceLeDiff, Nat.reduceSub]
   refine ITri.cond (v := false) rfl (fun h => by cases h) (fun _ => ?_); refine ITri.skip ?_; simp only [SeqQ_normal, BlkQ_normal]
   refine ITri.reg pok ?_; simp -implicitDefEqProofs (disch := first | decide | exact of_eq_true (eq_true rfl) | omega | assumption) only [ ↓vcD, vcE, ↓vcG, vcF, evs, evP, evB, intsOf, fillC, Value.cells, pt, Value.oneCell', reduceIte, reduceCtorEq, Nat.reduceEqDiff, Nat.reduceAdd, Nat.reduceMul, Nat.reduceLT, Nat.reduceBEq, Nat.reduceLeDiff, Nat.reduceSub]
   refine LoopQ.next (k + 1) ⟨by omega, take_eq (by omega) (by omega) ha q⟩ (by omega) (Wk.sub ⟨rfl, rfl, rfl, trivial⟩)
  ·rw [show sameM W H W H xs ys = false by unfold sameM; rw [decide_eq_false (show ¬ xs = ys from fun e => q (by rw [e])), Bool.and_false]]
   refine ITri.draw pok ?_; simp -implicitDefEqProofs (disch := first | decide | exact of_eq_true (eq_true rfl) | omega | assumption) only [gx, gy, q, decide_true, ne_eq, not_false_eq_true,  ↓vcD, vcE, ↓vcG, vcF, evs, evP, evB, intsOf, fillC, Value.cells, pt, Value.oneCell', reduceIte, reduceCtorEq, Nat.reduceEqDiff, Nat.reduceAdd, Nat.reduceMul, Nat.reduceLT, Nat.reduceBEq, Nat.reduceLeDiff, Nat.reduceSub]
   refine ITri.cond (v := true) rfl (fun _ => ?_) (fun h => by cases h)
   refine ITri.seq ?_
   refine ITri.reg pok ?_; simp -implicitDefEqProofs (disch := first | decide | exact of_eq_true (eq_true rfl) | omega | assumption) only [ ↓vcD, vcE, ↓vcG, vcF, evs, evP, evB, intsOf, fillC, Value.cells, pt, Value.oneCell', reduceIte, reduceCtorEq, Nat.reduceEqDiff, Nat.reduceAdd, Nat.reduceMul, Nat.reduceLT, Nat.reduceBEq, Nat.reduceLeDiff, Nat.reduceSub]
   refine ITri.ret ?_; exact EndR.plain (by simp) (by rfl) (by rfl) (by rfl)
 refine ITri.exit ?_; try simp -implicitDefEqProofs (disch := first | decide | exact of_eq_true (eq_true rfl) | omega | assumption) only [ ↓vcD, vcE, ↓vcG, vcF, evs, evP, evB, intsOf, fillC, Value.cells, pt, Value.oneCell', reduceIte, reduceCtorEq, Nat.reduceEqDiff, Nat.reduceAdd, Nat.reduceMul, Nat.reduceLT, Nat.reduceBEq, Nat.reduceLeDiff, Nat.reduceSub]
 obtain rfl : n = k := by omega
 rw [List.take_of_length_le (by omega), List.take_of_length_le (by omega)] at ha
 rw [show sameM W H W H xs ys = true by unfold sameM; rw [decide_eq_true ha]; simp]
 refine ITri.seq ?_
 refine ITri.reg pok ?_; simp -implicitDefEqProofs (disch := first | decide | exact of_eq_true (eq_true rfl) | omega | assumption) only [ ↓vcD, vcE, ↓vcG, vcF, evs, evP, evB, intsOf, fillC, Value.cells, pt, Value.oneCell', reduceIte, reduceCtorEq, Nat.reduceEqDiff, Nat.reduceAdd, Nat.reduceMul, Nat.reduceLT, Nat.reduceBEq, Nat.reduceLeDiff, Nat.reduceSub]
 refine ITri.ret ?_; exact EndR.plain (by simp) (by rfl) (by rfl) (by rfl)
theorem check_f {k n c sz : Nat} {op : Bool} {W H : Int} {xs : List Int} {h : AH} (hn : xs.length = n) (hb : n ≤ 1000000) (hs : h.sees 0 = true) (hg : h.get k = some (.cells ⟨rows eN xs, sz, op⟩)) : Fc Tryd.prog 36 [mV k n c W H] h (.int .i64 (mE W H xs)) h :=
 Fc.lift1o (os := []) (mk := fun ss => [.agg ⟨[Value.int .i64 W, .int .i64 H] ++ ss ++ []⟩]) (mkv := fun _ => .int .i64 (mE W H xs)) (check_c n c W H xs hn hb) (mkM W H) (MkV.const rfl) (rows_no (f := eN) _) (fun o h => by cases h) hs hg
theorem map_f {k n c sz : Nat} {op : Bool} {W H : Int} {xs : List Int} {h : AH} (hn : xs.length = n) (hb : n ≤ 1000000) (hs : h.sees 0 = true) (hg : h.get k = some (.cells ⟨rows eN xs, sz, op⟩)) : Fc Tryd.prog 39 [mV k n c W H] h (.bool (mOK W H xs)) h :=
 Fc.lift1o (os := []) (mk := fun ss => [.agg ⟨[Value.int .i64 W, .int .i64 H] ++ ss ++ []⟩]) (mkv := fun _ => .bool (mOK W H xs)) (map_c n c W H xs hn hb) (mkM W H) (MkV.const rfl) (rows_no (f := eN) _) (fun o h => by cases h) hs hg
theorem own_f {k n c sz : Nat} {op : Bool} {W H : Int} {xs : List Int} {h : AH} (hn : xs.length = n) (hb : n ≤ 1000000) (hs : h.sees 0 = true) (hg : h.get k = some (.cells ⟨rows eN xs, sz, op⟩)) : Fc Tryd.prog 35 [mV k n c W H] h (mV h.next n openB W H) (h.news [.cells ⟨rows eN xs, 1, true⟩]) :=
 Fc.lift1o (os := [(n, rows eN xs, 1)]) (mk := fun ss => [.agg ⟨[Value.int .i64 W, .int .i64 H] ++ ss ++ []⟩]) (mkv := fun ss => .agg ⟨[Value.int .i64 W, .int .i64 H] ++ ss ++ []⟩) (own_c n c W H xs hn hb) (mkM W H) (MkV.agg (MkL.mid rfl rfl)) (rows_no (f := eN) _) (fun o h => by simp at h; subst h; exact rows_no (f := eN) _) hs hg
theorem mkM2 (W H W' H' : Int) : MkL fun ss => [.agg ⟨[Value.int .i64 W, .int .i64 H] ++ ss.take 1 ++ []⟩, .agg ⟨[Value.int .i64 W', .int .i64 H'] ++ ss.drop 1 ++ []⟩] :=
 ⟨fun ψ ss => by simp only [mwL, Vm.mw, mwA, mwL_map', List.map_append, List.map_cons, List.map_nil, List.map_take, List.map_drop], fun ξ B ss h => ⟨okML_app.2 ⟨okML_app.2 ⟨⟨trivial, trivial, trivial⟩, okML_iff.2 fun v hv => h v (List.mem_of_mem_take hv)⟩, trivial⟩, okML_app.2 ⟨okML_app.2 ⟨⟨trivial, trivial, trivial⟩, okML_iff.2 fun v hv => h v (List.mem_of_mem_drop hv)⟩, trivial⟩, trivial⟩⟩
theorem same_f {k n c sz k2 m d sz2 : Nat} {op op2 : Bool} {W H W' H' : Int} {xs ys : List Int} {h : AH} (hn : xs.length = n) (hm : ys.length = m) (hb : n ≤ 1000000) (hb2 : m ≤ 1000000) (hs : h.sees 0 = true) (hg : h.get k = some (.cells ⟨rows eN xs, sz, op⟩)) (hg2 : h.get k2 = some (.cells ⟨rows eN ys, sz2, op2⟩)) :
    Fc Tryd.prog 40 [mV k n c W H, mV k2 m d W' H'] h (.bool (sameM W H W' H' xs ys)) h :=
 Fc.lift2o (os := []) (mk := fun ss => [.agg ⟨[Value.int .i64 W, .int .i64 H] ++ ss.take 1 ++ []⟩, .agg ⟨[Value.int .i64 W', .int .i64 H'] ++ ss.drop 1 ++ []⟩]) (mkv := fun _ => .bool (sameM W H W' H' xs ys)) (same_c n c m d W H W' H' xs ys hn hm hb hb2) (mkM2 W H W' H') (MkV.const rfl) (rows_no (f := eN) _) (rows_no (f := eN) _) (fun o h => by cases h) hs hg hg2
end Go.Proofs.YtgjokhodccacoaaDoor
