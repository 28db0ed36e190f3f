/-
  Chapters 8 to 10 at the top: sums; the widest and the narrowest cuts anywhere.
-/
import Derived.Test.YtjfgbdmdnejhdaaFitQ
set_option linter.unusedSimpArgs false
set_option linter.unusedVariables false
namespace Go.Proofs.Ytjfgbdmdnejhdaa
open Go.RowKit Go.Vm
set_option maxRecDepth 100000
theorem thick_f {c : Wb} {len : Int} (V : Vd c len) {h : AH} (h0 : h.sees 0 = true) : Fc Try.prog 17 [sawV c len] h (.tuple #[ptV h.next (h.next + 1) (tkS c len).length (usF c len) (min c.st len) (restF c len c.dh (rp (usF c len) c.wl) (rp (usF c len) c.sh) (usF c len)), .int .i64 (laF c.dh (rp (usF c len) c.wl) (usF c len)), .int .i64 (dF c.dh (rp (usF c len) c.wl) (usF c len))])
    (h.news [.cells ⟨rows eI (tkS c len), 1, true⟩, .cells ⟨rows eI (tkK c len), 1, true⟩]) := by
  have := Fc.lift (cs := []) (os := [((tkS c len).length, rows eI (tkS c len), 1), (usF c len, rows eI (tkK c len), 1)]) (mk := fun ss => [sawV c len] ++ ss ++ []) (mkv := fun ss => .tuple ⟨[.agg ⟨[] ++ ss ++ [.int .i64 (min c.st len), .int .i64 (restF c len c.dh (rp (usF c len) c.wl) (rp (usF c len) c.sh) (usF c len))]⟩, .int .i64 (laF c.dh (rp (usF c len) c.wl) (usF c len)), .int .i64 (dF c.dh (rp (usF c len) c.wl) (usF c len))]⟩) (ss := []) (fun caps hc => by
    obtain rfl : caps = [] := List.eq_nil_of_length_eq_zero hc
    exact thick_c c len V) (MkL.mid rfl rfl) (MkV.tup (MkL.agg1 (MkL.mid rfl rfl) rfl)) (fun p hp => by cases hp) (fun p hp => by
      simp only [List.mem_cons, List.not_mem_nil, or_false] at hp
      rcases hp with rfl | rfl <;> exact rows_no (f := eI) _) h0 trivial
  exact this
theorem thin_f {c : Wb} {len : Int} (V : Vd c len) {h : AH} (h0 : h.sees 0 = true) : Fc Try.prog 18 [sawV c len] h (.tuple #[ptV h.next (h.next + 1) (tnS c len).length (usF c len) (min c.st len) (restF c len c.dl (rp (usF c len) c.wh) (rp (usF c len) c.sl) (usF c len)), .int .i64 (laF c.dl (rp (usF c len) c.wh) (usF c len)), .int .i64 (dF c.dl (rp (usF c len) c.wh) (usF c len))])
    (h.news [.cells ⟨rows eI (tnS c len), 1, true⟩, .cells ⟨rows eI (tnK c len), 1, true⟩]) := by
  have := Fc.lift (cs := []) (os := [((tnS c len).length, rows eI (tnS c len), 1), (usF c len, rows eI (tnK c len), 1)]) (mk := fun ss => [sawV c len] ++ ss ++ []) (mkv := fun ss => .tuple ⟨[.agg ⟨[] ++ ss ++ [.int .i64 (min c.st len), .int .i64 (restF c len c.dl (rp (usF c len) c.wh) (rp (usF c len) c.sl) (usF c len))]⟩, .int .i64 (laF c.dl (rp (usF c len) c.wh) (usF c len)), .int .i64 (dF c.dl (rp (usF c len) c.wh) (usF c len))]⟩) (ss := []) (fun caps hc => by
    obtain rfl : caps = [] := List.eq_nil_of_length_eq_zero hc
    exact thin_c c len V) (MkL.mid rfl rfl) (MkV.tup (MkL.agg1 (MkL.mid rfl rfl) rfl)) (fun p hp => by cases hp) (fun p hp => by
      simp only [List.mem_cons, List.not_mem_nil, or_false] at hp
      rcases hp with rfl | rfl <;> exact rows_no (f := eI) _) h0 trivial
  exact this
def sumI : List Int → Int
  | [] => 0
  | a :: r => a + sumI r
theorem sumI_app : ∀ (l : List Int) (a : Int), sumI (l ++ [a]) = sumI l + a
  | [], a => by simp [sumI]
  | b :: r, a => by
    show b + sumI (r ++ [a]) = b + sumI r + a
    rw [sumI_app r a]
    omega
theorem sumI_take {xs : List Int} {i : Nat} (h : i < xs.length) : sumI (xs.take (i + 1)) = sumI (xs.take i) + nth xs i := by
  rw [List.take_add_one, List.getElem?_eq_getElem h]
  have e : nth xs i = xs[i] := by unfold nth; rw [List.getD_eq_getElem?_getD, List.getElem?_eq_getElem h]; rfl
  rw [e]
  exact sumI_app _ _
theorem sumI_bd {xs : List Int} (h : ∀ x ∈ xs, 0 ≤ x ∧ x ≤ 600000000) : ∀ i, i ≤ xs.length → 0 ≤ sumI (xs.take i) ∧ sumI (xs.take i) ≤ 600000000 * i
  | 0, _ => by simp [sumI]
  | i + 1, hi => by
    have ih := sumI_bd h i (by omega)
    have hx := h _ (nth_mem (show i < xs.length by omega))
    rw [sumI_take (by omega)]
    omega
/- boule/slice.sum · slots 16 · names 0:l 1:l 2:n 3:_ 4:x · results [2] -/
def ir19_r0 : IC := .reg [⟨some 2, none, false, .mv (.k (.int .i64 0))⟩] (some [0, 2])
def ir19_r1 : IC := .reg [⟨some 5, none, false, .mv (.t 0)⟩,
  ⟨some 6, none, false, .len (.t 5)⟩,
  ⟨some 7, none, false, .mv (.k (.int .i64 0))⟩] (some [2, 5, 6, 7])
def ir19_r2 : IC := .reg [⟨some 8, none, false, .cmp .lss (.t 7) (.t 6)⟩] (some [2, 5, 6, 7, 8])
def ir19_1 : IC := .cond (.t 8) .skip (.exit 0)
def ir19_r3 : IC := .reg [⟨some 9, none, false, .iad 1 (.t 5) (.t 7)⟩,
  ⟨some 10, none, false, .ldc (.t 9)⟩,
  ⟨some 4, none, false, .mv (.t 10)⟩] (some [2, 4, 5, 6, 7])
def ir19_r4 : IC := .reg [⟨some 11, none, false, .mv (.t 2)⟩,
  ⟨some 12, none, false, .mv (.t 4)⟩,
  ⟨some 13, none, false, .ar .add (.t 11) (.t 12)⟩,
  ⟨some 2, none, false, .mv (.t 13)⟩] (some [2, 5, 6, 7])
def ir19_2 : IC := .seq ir19_r3 ir19_r4
def ir19_3 : IC := .block 1 ir19_2
def ir19_r5 : IC := .reg [⟨some 14, none, false, .ar .add (.t 7) (.k (.int .i64 1))⟩,
  ⟨some 7, none, false, .mv (.t 14)⟩] (some [2, 5, 6, 7])
def ir19_4 : IC := .seq ir19_3 ir19_r5
def ir19_5 : IC := .seq ir19_1 ir19_4
def ir19_6 : IC := .seq ir19_r2 ir19_5
def ir19_7 : IC := .loop ir19_6
def ir19_8 : IC := .block 0 ir19_7
def ir19_9 : IC := .seq ir19_r1 ir19_8
def ir19_r6 : IC := .reg [⟨some 15, none, false, .mv (.t 2)⟩,
  ⟨some 2, none, false, .mv (.t 15)⟩] (some [2])
def ir19_10 : IC := .seq ir19_r6 .ret
def ir19_11 : IC := .seq ir19_9 ir19_10
def ir19_12 : IC := .seq ir19_r0 ir19_11
def ir19 : IC := ir19_12
theorem fn19 : FnIs Try.prog 19 ir19 16 [.tmp 2] := ⟨Try.f19, Try.f19.body.getD .skip, Try.func19, by kernel_rfl, by kernel_rfl, by kernel_rfl, by kernel_rfl⟩
theorem sum_c {xs : List Int} {n c : Nat} (hn : xs.length = n) (h : ∀ x ∈ xs, 0 ≤ x ∧ x ≤ 600000000) (hb : n ≤ 2000) : Fc Try.prog 19 [.slice (some ⟨1, 0, none⟩) n c] (Hp 2 [none, some (.cells ⟨rows eI xs, 0, false⟩)]) (.int .i64 (sumI xs)) (Hp 2 [none, some (.cells ⟨rows eI xs, 0, false⟩)]) := by
  refine Fc.intro0 fn19 (by simp) rfl rfl ?_; simp only [argF]
  refine ITri.seq ?_
  refine ITri.reg pok ?_; simp -implicitDefEqProofs (disch := first | decide | exact of_eq_true (eq_true rfl) | omega | assumption) only [ ↓vcD, vcE, ↓vcG, vcF, evs, evP, evB, intsOf, fillC, Value.cells, pt, Value.oneCell', reduceIte, reduceCtorEq, Nat.reduceEqDiff, Nat.reduceAdd, Nat.reduceMul, Nat.reduceLT, Nat.reduceBEq, Nat.reduceLeDiff, Nat.reduceSub] -- r0
  refine ITri.seq ?_
  refine ITri.seq ?_
  refine ITri.reg pok ?_; simp -implicitDefEqProofs (disch := first | decide | exact of_eq_true (eq_true rfl) | omega | assumption) only [ ↓vcD, vcE, ↓vcG, vcF, evs, evP, evB, intsOf, fillC, Value.cells, pt, Value.oneCell', reduceIte, reduceCtorEq, Nat.reduceEqDiff, Nat.reduceAdd, Nat.reduceMul, Nat.reduceLT, Nat.reduceBEq, Nat.reduceLeDiff, Nat.reduceSub] -- r1
  refine ITri.block ?_ -- 0
  refine ITri.loop (fun i : Nat => [(2, .int .i64 (sumI (xs.take i))), (5, .slice (some ⟨1, 0, none⟩) n c), (6, .int .i64 n), (7, .int .i64 i)]) (fun _ => []) (fun _ => Hp 2 [none, some (.cells ⟨rows eI xs, 0, false⟩)]) (fun i => i ≤ n) (fun i => n - i) 0 (Nat.zero_le _) (Wk.sub ⟨rfl, rfl, rfl, rfl, trivial⟩) fun i hi => ?_
  refine ITri.seq ?_
  refine ITri.reg pok ?_; simp -implicitDefEqProofs (disch := first | decide | exact of_eq_true (eq_true rfl) | omega | assumption) only [ ↓vcD, vcE, ↓vcG, vcF, evs, evP, evB, intsOf, fillC, Value.cells, pt, Value.oneCell', reduceIte, reduceCtorEq, Nat.reduceEqDiff, Nat.reduceAdd, Nat.reduceMul, Nat.reduceLT, Nat.reduceBEq, Nat.reduceLeDiff, Nat.reduceSub] -- r2
  refine ITri.seq ?_
  refine ITri.condD (by rfl) (fun h3 => ?_) (fun h3 => ?_)
  · have hix : i < xs.length := by omega
    have g1 := getI hix
    have b1 := sumI_bd h i (by omega)
    have b2 := sumI_bd h (i + 1) (by omega)
    have e := sumI_take hix
    have hi1 : (i : Int) + 1 = ((i + 1 : Nat) : Int) := by omega
    refine ITri.skip ?_; simp only [SeqQ_normal, BlkQ_normal]
    refine ITri.seq ?_
    refine ITri.block ?_ -- 1
    refine ITri.seq ?_
    refine ITri.reg pok ?_; simp -implicitDefEqProofs (disch := first | decide | exact of_eq_true (eq_true rfl) | omega | assumption) only [g1,  ↓vcD, vcE, ↓vcG, vcF, evs, evP, evB, intsOf, fillC, Value.cells, pt, Value.oneCell', reduceIte, reduceCtorEq, Nat.reduceEqDiff, Nat.reduceAdd, Nat.reduceMul, Nat.reduceLT, Nat.reduceBEq, Nat.reduceLeDiff, Nat.reduceSub] -- r3
    refine ITri.reg pok ?_; simp -implicitDefEqProofs (disch := first | decide | exact of_eq_true (eq_true rfl) | omega | assumption) only [← e,  ↓vcD, vcE, ↓vcG, vcF, evs, evP, evB, intsOf, fillC, Value.cells, pt, Value.oneCell', reduceIte, reduceCtorEq, Nat.reduceEqDiff, Nat.reduceAdd, Nat.reduceMul, Nat.reduceLT, Nat.reduceBEq, Nat.reduceLeDiff, Nat.reduceSub] -- r4
    refine ITri.reg pok ?_; simp -implicitDefEqProofs (disch := first | decide | exact of_eq_true (eq_true rfl) | omega | assumption) only [hi1,  ↓vcD, vcE, ↓vcG, vcF, evs, evP, evB, intsOf, fillC, Value.cells, pt, Value.oneCell', reduceIte, reduceCtorEq, Nat.reduceEqDiff, Nat.reduceAdd, Nat.reduceMul, Nat.reduceLT, Nat.reduceBEq, Nat.reduceLeDiff, Nat.reduceSub] -- r5
    exact LoopQ.next (i + 1) (by omega) (by omega) (Wk.sub ⟨rfl, rfl, rfl, rfl, trivial⟩)
  refine ITri.exit ?_; try simp -implicitDefEqProofs (disch := first | decide | exact of_eq_true (eq_true rfl) | omega | assumption) only [ ↓vcD, vcE, ↓vcG, vcF, evs, evP, evB, intsOf, fillC, Value.cells, pt, Value.oneCell', reduceIte, reduceCtorEq, Nat.reduceEqDiff, Nat.reduceAdd, Nat.reduceMul, Nat.reduceLT, Nat.reduceBEq, Nat.reduceLeDiff, Nat.reduceSub]
  have hte : xs.take i = xs := List.take_of_length_le (by omega)
  rw [hte]
  refine ITri.seq ?_
  refine ITri.reg pok ?_; simp -implicitDefEqProofs (disch := first | decide | exact of_eq_true (eq_true rfl) | omega | assumption) only [ ↓vcD, vcE, ↓vcG, vcF, evs, evP, evB, intsOf, fillC, Value.cells, pt, Value.oneCell', reduceIte, reduceCtorEq, Nat.reduceEqDiff, Nat.reduceAdd, Nat.reduceMul, Nat.reduceLT, Nat.reduceBEq, Nat.reduceLeDiff, Nat.reduceSub]
  refine ITri.ret ?_; exact EndR.plain (by simp) (by rfl) (by rfl) (by rfl)
theorem sum_f {xs : List Int} {n c : Nat} (hn : xs.length = n) (h : ∀ x ∈ xs, 0 ≤ x ∧ x ≤ 600000000) (hb : n ≤ 2000) {hh : AH} {k sz : Nat} {op : Bool} (h0 : hh.sees 0 = true) (hg : hh.get k = some (.cells ⟨rows eI xs, sz, op⟩)) : Fc Try.prog 19 [.slice (some ⟨k, 0, none⟩) n c] hh (.int .i64 (sumI xs)) hh :=
  Fc.lift1o (os := []) (mk := fun ss => ss ++ []) (mkv := fun _ => .int .i64 (sumI xs)) (sum_c hn h hb) (MkL.app rfl) (MkV.const rfl) (rows_no (f := eI) _) (fun o h => by cases h) h0 hg
end Go.Proofs.Ytjfgbdmdnejhdaa
