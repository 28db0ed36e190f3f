import Derived.Test.YtgjokhodccacoaaDoorSRecW8
set_option linter.unusedSimpArgs false
set_option linter.unusedVariables false
namespace Go.Vm
open Go Go.RowKit
theorem gen_fromK {P : Program} {w : Bool} {t el : TypeId} {f : TypeInfo} {s d k n c o i : Nat} {l : Fr} {h : AH} {K : Value → AH → Prop} {x : Int} (hu : P.underlying t = some (.slice el)) (hi : P.info? el = some f) (hsz : f.size = 1) (hl : lk l s = some (.slice (some ⟨k, o, none⟩) n c)) (h1 : lk l d = some (.int .i64 x)) (hx : x = i) (hn : i ≤ n) (hc : n ≤ c) (hco : c < openB) (q : K (.slice (some ⟨k, if c = i then o else o + i, none⟩) (n - i) (c - i)) h) :
    iStep P w (.gen (.slice t (.tmp s) (some (.tmp d)) none none)) l h K := by
 subst hx
 refine ⟨_, _, ?_, q⟩
 have e1 : aEnv (trOf l) (.tmp s) = some (.slice (some ⟨k, o, none⟩) n c) := by simp only [aEnv, trOf_get, hl]
 have e2 : aOptV (aEnv (trOf l)) (some (.tmp d)) = some (some (.int .i64 i)) := by simp only [aOptV, aEnv, trOf_get, h1]
 have e4 : aOptV (aEnv (trOf l)) none = some none := rfl
 have n1 : natOf (some (.int .i64 (i : Int))) 0 = some i := natOf_n
 have n2 : natOf none n = some n := rfl
 have n3 : natOf none c = some c := rfl
 have hv : aSlice P t (.slice (some ⟨k, o, none⟩) n c) (some (.int .i64 i)) none none = some (.slice (some ⟨k, if c = i then o else o + i, none⟩) (n - i) (c - i)) := by
  simp only [aSlice, hu, hi, n1, n2, n3, if_pos hco, hsz]
  rw [if_pos ⟨hn, hc, Nat.le_refl _, by simp, by simp [hc]⟩]
  by_cases h0 : c = i
  ·simp [h0]
  ·rw [if_neg h0, if_neg h0]
   simp only [Option.map_some, Addr.add, Nat.mul_one]
   split
   ·rename_i hz; rw [hz, Nat.add_zero]
   ·rfl
 simp only [aOp, e1, e2, e4, hv]
end Go.Vm
namespace Go.Proofs.YtgjokhodccacoaaDoor
open Go.RowKit Go.Vm
set_option maxRecDepth 100000
def runL : List Int → Nat
 | [] => 0
 | x :: r => 1 + (r.takeWhile fun y => decide (y = x)).length
theorem tw_le {p : Int → Bool} : ∀ (r : List Int), (r.takeWhile p).length ≤ r.length
 | [] => Nat.le_refl _
 | y :: r => by
  rw [List.takeWhile_cons]
  split
  ·have := tw_le (p := p) r
   simp only [List.length_cons]
   omega
  ·exact Nat.zero_le _
theorem tw_in {p : Int → Bool} : ∀ (r : List Int) (j : Nat), j < (r.takeWhile p).length → p (nth r j) = true
 | [], j, h => by cases h
 | y :: r, j, h => by
  rw [List.takeWhile_cons] at h
  split at h
  ·rename_i hp
   cases j with
   | zero => exact hp
   | succ j => exact tw_in (p := p) r j (by simpa using h)
  ·cases h
theorem tw_out {p : Int → Bool} : ∀ (r : List Int), (r.takeWhile p).length < r.length → p (nth r (r.takeWhile p).length) = false
 | [], h => by cases h
 | y :: r, h => by
  rw [List.takeWhile_cons] at h ⊢
  split at h
  ·rename_i hp
   rw [if_pos hp]
   exact tw_out (p := p) r (by simpa using h)
  ·rename_i hp
   rw [if_neg hp]
   show p y = false
   simpa using hp
theorem run_pos {ys : List Int} (h : ys ≠ []) : 1 ≤ runL ys ∧ runL ys ≤ ys.length := by
 cases ys with
 | nil => exact absurd rfl h
 | cons x r =>
  have := tw_le (p := fun y => decide (y = x)) r
  show 1 ≤ 1 + _ ∧ 1 + _ ≤ r.length + 1
  omega
theorem run_in {ys : List Int} {j : Nat} (h : j < runL ys) : nth ys j = nth ys 0 := by
 cases ys with
 | nil => cases h
 | cons x r =>
  cases j with
  | zero => rfl
  | succ j =>
   have h' : j < (r.takeWhile fun y => decide (y = x)).length := by
    have h : j + 1 < 1 + (r.takeWhile fun y => decide (y = x)).length := h
    omega
   exact of_decide_eq_true (tw_in r j h')
theorem run_out {ys : List Int} (h : runL ys < ys.length) : nth ys (runL ys) ≠ nth ys 0 := by
 cases ys with
 | nil => cases h
 | cons x r =>
  have h' : (r.takeWhile fun y => decide (y = x)).length < r.length := by
   have h : 1 + (r.takeWhile fun y => decide (y = x)).length < r.length + 1 := h
   omega
  have := of_decide_eq_false (tw_out r h')
  show nth (x :: r) (1 + _) ≠ x
  rw [Nat.add_comm]
  exact this
def rlB (ys : List Int) : List Int := if h : ys = [] then [] else groups (8 * (runL ys - 1) + (nth ys 0).toNat) ++ rlB (ys.drop (runL ys))
termination_by ys.length
decreasing_by
 have := run_pos h
 rw [List.length_drop]
 omega
theorem rlB_nil : rlB [] = [] := by rw [rlB]; rfl
theorem rlB_step {ys : List Int} (h : ys ≠ []) : rlB ys = groups (8 * (runL ys - 1) + (nth ys 0).toNat) ++ rlB (ys.drop (runL ys)) := by
 conv => lhs; rw [rlB]
 rw [dif_neg h]
def rlN (ys : List Int) : Nat := if h : ys = [] then 0 else 1 + rlN (ys.drop (runL ys))
termination_by ys.length
decreasing_by
 have := run_pos h
 rw [List.length_drop]
 omega
theorem rlN_nil : rlN [] = 0 := by rw [rlN]; rfl
theorem rlN_step {ys : List Int} (h : ys ≠ []) : rlN ys = 1 + rlN (ys.drop (runL ys)) := by
 conv => lhs; rw [rlN]
 rw [dif_neg h]
theorem rlN_0 {ys : List Int} (h : rlN ys = 0) : ys = [] := by
 by_cases h0 : ys = []
 ·exact h0
 ·rw [rlN_step h0] at h; omega
theorem nth_drop {xs : List Int} {o j : Nat} : nth (xs.drop o) j = nth xs (o + j) := by
 unfold nth
 rw [List.getD_eq_getElem?_getD, List.getD_eq_getElem?_getD, List.getElem?_drop]
def is7 (xs : List Int) : Prop := ∀ x ∈ xs, 0 ≤ x ∧ x ≤ 7
theorem code_lt {ys : List Int} (h : is7 ys) (h0 : ys ≠ []) : 8 * (runL ys - 1) + (nth ys 0).toNat < 8 * ys.length := by
 have := run_pos h0
 have hm := h _ (nth_mem (i := 0) (by cases ys with | nil => exact absurd rfl h0 | cons _ _ => simp))
 omega
theorem is7_drop {ys : List Int} {o : Nat} (h : is7 ys) : is7 (ys.drop o) := fun x hx => h x (List.mem_of_mem_drop hx)
theorem rlB_ok : ∀ (k : Nat) (ys : List Int), ys.length ≤ k → is7 ys → k ≤ 100000000 → (rlB ys).length ≤ 9 * ys.length ∧ isB (rlB ys)
 | 0, ys, hk, _, _ => by
  obtain rfl : ys = [] := List.eq_nil_of_length_eq_zero (by omega)
  rw [rlB_nil]
  exact ⟨Nat.le_refl _, fun x hx => by cases hx⟩
 | k + 1, ys, hk, h7, hb => by
  by_cases h0 : ys = []
  ·subst h0
   rw [rlB_nil]
   exact ⟨Nat.le_refl _, fun x hx => by cases hx⟩
  ·have hr := run_pos h0
   have hc := code_lt h7 h0
   have hl : (ys.drop (runL ys)).length = ys.length - runL ys := List.length_drop
   obtain ⟨i1, i2⟩ := rlB_ok k (ys.drop (runL ys)) (by omega) (is7_drop h7) (by omega)
   obtain ⟨g1, _⟩ := groups_len (N := 8 * (runL ys - 1) + (nth ys 0).toNat) (by omega)
   rw [rlB_step h0]
   refine ⟨by rw [List.length_append]; omega, fun x hx => ?_⟩
   rcases List.mem_append.1 hx with hx | hx
   ·exact groups_isB (by omega) x hx
   ·exact i2 x hx
theorem u_slI : Tryd.prog.underlying 54 = some (.slice 3) := by kernel_rfl
theorem i_int : Tryd.prog.info? 3 = some ((Tryd.prog.info? 3).get rfl) := by kernel_rfl
theorem sz_int : ((Tryd.prog.info? 3).get rfl).size = 1 := by kernel_rfl
abbrev clo (f : Nat) (cap : List Value) : Value := .func (.func f) #[] ⟨cap⟩
def ir91_r0 : IC := .reg [⟨some 3, none, false, .mv (.k (.bool false))⟩] (some [0, 1])
def ir91_r1 : IC := .reg [⟨some 4, none, false, .mv (.t 0)⟩,
 ⟨some 5, none, false, .ldc (.t 1)⟩,
 ⟨some 6, none, false, .iad 1 (.t 5) (.k (.int .i64 0))⟩,
 ⟨some 7, none, false, .ldc (.t 6)⟩,
 ⟨some 8, none, false, .cmp .neq (.t 4) (.t 7)⟩,
 ⟨some 3, none, false, .mv (.t 8)⟩] (some [3])
def ir91_1 : IC := .seq ir91_r1 .ret
def ir91_2 : IC := .seq ir91_r0 ir91_1
def ir91 : IC := ir91_2
theorem fn91 : FnIs Tryd.prog 91 ir91 9 [.tmp 3] := ⟨Tryd.f91, Tryd.f91.body.getD .skip, Tryd.func91, by kernel_rfl, by kernel_rfl, by kernel_rfl, by kernel_rfl⟩
section
variable {wl : Nat} {L : List (Option AObj)}
theorem clo91_x {kl ks o n c sz : Nat} {op : Bool} {xs : List Int} {v : Int} (hl : L[kl]? = some (some (AObj.cells ⟨[.slice (some ⟨ks, o, none⟩) n c], 1, false⟩))) (hk : L[ks]? = some (some (AObj.cells ⟨rows eN xs, sz, op⟩))) (ho : o < xs.length) (hn : 0 < n) :
    Fc Tryd.prog 91 [.int .i64 v, pt kl] (Hp wl L) (.bool (decide (v ≠ nth xs o))) (Hp wl L) := by
 have hg : (rows eN xs)[o + Int.toNat 0]? = some (.int .i64 (nth xs o)) := getN ho
 have hn' : (0 : Int) < n := by omega
 have hdn : (!decide (v = nth xs o)) = decide (v ≠ nth xs o) := by simp
 refine Fc.introX fn91 (by simp) (fun _ => Grow.refl _) ?_; simp only [argF]
 refine ITri.seq ?_
 refine ITri.reg pok ?_; simp -implicitDefEqProofs (disch := first | decide | exact of_eq_true (eq_true rfl) | omega | assumption) only [ ↓vcD, vcE, ↓vcG, vcF, evs, evP, evB, intsOf, fillC, Value.cells, pt, Value.oneCell', reduceIte, reduceCtorEq, Nat.reduceEqDiff, Nat.reduceAdd, Nat.reduceMul, Nat.reduceLT, Nat.reduceBEq, Nat.reduceLeDiff, Nat.reduceSub]
 refine ITri.seq ?_
 refine ITri.reg pok ?_; simp -implicitDefEqProofs (disch := first | decide | exact of_eq_true (eq_true rfl) | omega | assumption) only [hl, hk, hg, hn', hdn,  ↓vcD, vcE, ↓vcG, vcF, evs, evP, evB, intsOf, fillC, Value.cells, pt, Value.oneCell', reduceIte, reduceCtorEq, Nat.reduceEqDiff, Nat.reduceAdd, Nat.reduceMul, Nat.reduceLT, Nat.reduceBEq, Nat.reduceLeDiff, Nat.reduceSub]
 refine ITri.ret ?_; exact EndX.mk (by simp) (resF_tmp rfl resF_nil) rfl rfl
theorem idx_x {kl ks o n c sz : Nat} {op : Bool} {xs : List Int} (hl : L[kl]? = some (some (AObj.cells ⟨[.slice (some ⟨ks, o, none⟩) n c], 1, false⟩))) (hk : L[ks]? = some (some (AObj.cells ⟨rows eN xs, sz, op⟩))) (ho : o + n = xs.length) (hn : 0 < n) (hb : n ≤ 1000000) :
    Fc Tryd.prog 90 [.slice (some ⟨ks, o, none⟩) n c, clo 91 [pt kl]] (Hp wl L) (.int .i64 (if runL (xs.drop o) = n then -1 else runL (xs.drop o))) (Hp wl L) := by
 have hyl : (xs.drop o).length = n := by rw [List.length_drop]; omega
 have hy0 : xs.drop o ≠ [] := fun e => by rw [e] at hyl; simp at hyl; omega
 have hr := run_pos hy0
 have e0 : nth (xs.drop o) 0 = nth xs o := by rw [nth_drop, Nat.add_zero]
 refine Fc.introX fn90 (by simp) (fun _ => Grow.refl _) ?_; simp only [argF]
 refine ITri.seq ?_
 refine ITri.reg pok ?_; simp -implicitDefEqProofs (disch := first | decide | exact of_eq_true (eq_true rfl) | omega | assumption) only [ ↓vcD, vcE, ↓vcG, vcF, evs, evP, evB, intsOf, fillC, Value.cells, pt, Value.oneCell', reduceIte, reduceCtorEq, Nat.reduceEqDiff, Nat.reduceAdd, Nat.reduceMul, Nat.reduceLT, Nat.reduceBEq, Nat.reduceLeDiff, Nat.reduceSub]
 refine ITri.seq ?_
 refine ITri.seq ?_
 refine ITri.reg pok ?_; simp -implicitDefEqProofs (disch := first | decide | exact of_eq_true (eq_true rfl) | omega | assumption) only [ ↓vcD, vcE, ↓vcG, vcF, evs, evP, evB, intsOf, fillC, Value.cells, pt, Value.oneCell', reduceIte, reduceCtorEq, Nat.reduceEqDiff, Nat.reduceAdd, Nat.reduceMul, Nat.reduceLT, Nat.reduceBEq, Nat.reduceLeDiff, Nat.reduceSub]
 refine ITri.block ?_
 refine ITri.loop (fun i : Nat => [(0, .slice (some ⟨ks, o, none⟩) n c), (1, clo 91 [pt kl]), (7, .int .i64 n), (8, .int .i64 i)]) (fun _ => []) (fun _ => Hp wl L) (fun i => i ≤ runL (xs.drop o)) (fun i => n - i) 0 (Nat.zero_le _) (Wk.sub ⟨rfl, rfl, rfl, rfl, trivial⟩) fun i hi => ?_
 refine ITri.seq ?_
 refine ITri.reg pok ?_; simp -implicitDefEqProofs (disch := first | decide | exact of_eq_true (eq_true rfl) | omega | assumption) only [ ↓vcD, vcE, ↓vcG, vcF, evs, evP, evB, intsOf, fillC, Value.cells, pt, Value.oneCell', reduceIte, reduceCtorEq, Nat.reduceEqDiff, Nat.reduceAdd, Nat.reduceMul, Nat.reduceLT, Nat.reduceBEq, Nat.reduceLeDiff, Nat.reduceSub]
 refine ITri.seq ?_
 refine ITri.condD (by rfl) (fun h2 => ?_) (fun h2 => ?_)
 ·have hix : o + i < xs.length := by omega
  have hg := getN hix
  have hi' : (i : Int) < n := by omega
  refine ITri.skip ?_; simp only [SeqQ_normal, BlkQ_normal]
  refine ITri.seq ?_
  refine ITri.block ?_
  refine ITri.seq ?_
  refine ITri.reg pok ?_; simp -implicitDefEqProofs (disch := first | decide | exact of_eq_true (eq_true rfl) | omega | assumption) only [ ↓vcD, vcE, ↓vcG, vcF, evs, evP, evB, intsOf, fillC, Value.cells, pt, Value.oneCell', reduceIte, reduceCtorEq, Nat.reduceEqDiff, Nat.reduceAdd, Nat.reduceMul, Nat.reduceLT, Nat.reduceBEq, Nat.reduceLeDiff, Nat.reduceSub]
  refine ITri.seq ?_
  refine ITri.reg pok ?_; simp -implicitDefEqProofs (disch := first | decide | exact of_eq_true (eq_true rfl) | omega | assumption) only [hk, hg, hi', Nat.mul_one, Int.toNat_natCast,  ↓vcD, vcE, ↓vcG, vcF, evs, evP, evB, intsOf, fillC, Value.cells, pt, Value.oneCell', reduceIte, reduceCtorEq, Nat.reduceEqDiff, Nat.reduceAdd, Nat.reduceMul, Nat.reduceLT, Nat.reduceBEq, Nat.reduceLeDiff, Nat.reduceSub]
  refine ⟨_, _, clo91_x hl hk (by omega) hn, ?_⟩
  try simp -implicitDefEqProofs (disch := first | decide | exact of_eq_true (eq_true rfl) | omega | assumption) only [ ↓vcD, vcE, ↓vcG, vcF, evs, evP, evB, intsOf, fillC, Value.cells, pt, Value.oneCell', reduceIte, reduceCtorEq, Nat.reduceEqDiff, Nat.reduceAdd, Nat.reduceMul, Nat.reduceLT, Nat.reduceBEq, Nat.reduceLeDiff, Nat.reduceSub]
  by_cases hne : i = runL (xs.drop o)
  ·have hd : decide (nth xs (o + i) ≠ nth xs o) = true := by
     have := run_out (ys := xs.drop o) (by omega)
     rw [← hne, nth_drop, e0] at this
     exact decide_eq_true this
   rw [hd]
   refine ITri.cond (v := true) rfl (fun _ => ?_) (fun h => by cases h)
   refine ITri.seq ?_
   refine ITri.reg pok ?_; simp -implicitDefEqProofs (disch := first | decide | exact of_eq_true (eq_true rfl) | omega | assumption) only [ ↓vcD, vcE, ↓vcG, vcF, evs, evP, evB, intsOf, fillC, Value.cells, pt, Value.oneCell', reduceIte, reduceCtorEq, Nat.reduceEqDiff, Nat.reduceAdd, Nat.reduceMul, Nat.reduceLT, Nat.reduceBEq, Nat.reduceLeDiff, Nat.reduceSub]
   refine ITri.ret ?_
   refine EndX.mk (by simp) (resF_tmp rfl resF_nil) ?_ rfl
   rw [if_neg (by omega), ← hne]
   rfl
  ·have hd : decide (nth xs (o + i) ≠ nth xs o) = false := by
     have := run_in (ys := xs.drop o) (j := i) (by omega)
     rw [nth_drop, e0] at this
     exact decide_eq_false (fun h => h this)
   rw [hd]
   have hi1 : (i : Int) + 1 = ((i + 1 : Nat) : Int) := by omega
   refine ITri.cond (v := false) rfl (fun h => by cases h) (fun _ => ?_); refine ITri.skip ?_; simp only [SeqQ_normal, BlkQ_normal]
   refine ITri.reg pok ?_; simp -implicitDefEqProofs (disch := first | decide | exact of_eq_true (eq_true rfl) | omega | assumption) only [hi1,  ↓vcD, vcE, ↓vcG, vcF, evs, evP, evB, intsOf, fillC, Value.cells, pt, Value.oneCell', reduceIte, reduceCtorEq, Nat.reduceEqDiff, Nat.reduceAdd, Nat.reduceMul, Nat.reduceLT, Nat.reduceBEq, Nat.reduceLeDiff, Nat.reduceSub]
   exact LoopQ.next (i + 1) (by omega) (by omega) (Wk.sub ⟨rfl, rfl, rfl, rfl, trivial⟩)
 refine ITri.exit ?_; try simp -implicitDefEqProofs (disch := first | decide | exact of_eq_true (eq_true rfl) | omega | assumption) only [ ↓vcD, vcE, ↓vcG, vcF, evs, evP, evB, intsOf, fillC, Value.cells, pt, Value.oneCell', reduceIte, reduceCtorEq, Nat.reduceEqDiff, Nat.reduceAdd, Nat.reduceMul, Nat.reduceLT, Nat.reduceBEq, Nat.reduceLeDiff, Nat.reduceSub]
 refine ITri.seq ?_
 refine ITri.reg pok ?_; simp -implicitDefEqProofs (disch := first | decide | exact of_eq_true (eq_true rfl) | omega | assumption) only [ ↓vcD, vcE, ↓vcG, vcF, evs, evP, evB, intsOf, fillC, Value.cells, pt, Value.oneCell', reduceIte, reduceCtorEq, Nat.reduceEqDiff, Nat.reduceAdd, Nat.reduceMul, Nat.reduceLT, Nat.reduceBEq, Nat.reduceLeDiff, Nat.reduceSub]
 refine ITri.ret ?_
 refine EndX.mk (by simp) (resF_tmp rfl resF_nil) ?_ rfl
 rw [if_pos (by omega)]
 rfl
end
end Go.Proofs.YtgjokhodccacoaaDoor
