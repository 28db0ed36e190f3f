/-
  Chapter 1 at the top: closures over a box in IndexFunc and ContainsFunc, and the rounds of slices.Backward, by names.
-/
import Derived.Test.YtlhhkmkclmedgaaPorE
set_option linter.unusedSimpArgs false
set_option linter.unusedVariables false
namespace Go.Proofs.Ytlhhkmkclmedgaa
open Go.RowKit Go.Vm
set_option maxRecDepth 100000

abbrev fB (g k : Nat) : Value := .func (.func g) #[] #[pt k]
abbrev BM (bs cs : List Value) : AH := Hp 3 [none, some (.cells ⟨bs, 0, false⟩), some (.cells ⟨cs, 0, false⟩)]
/-- A function of a slice and a closure over a box, lifted. -/
theorem liftB {f g n : Nat} {bs cs : List Value} {v : Value} (hv : noAddr v = true) (F : ∀ c, Fc Try.prog f [.slice (some ⟨2, 0, none⟩) n c, fB g 1] (BM bs cs) v (BM bs cs)) (hbs : noAddrL bs = true) (hcs : noAddrL cs = true) {h : AH} {s : Value} {kb sz : Nat} {op : Bool} (h0 : h.sees 0 = true) (hg : h.get kb = some (.cells ⟨bs, sz, op⟩)) (r : Rd h s n cs) :
    Fc Try.prog f [s, fB g kb] h v h := by
  obtain ⟨p, c, rfl, r, hp⟩ := r
  refine Fc.frameL (Lc := [none, some (.cells ⟨bs, 0, false⟩), some (.cells ⟨cs, 0, false⟩)]) (os := []) (F c) [(0, 0, false), (kb, 0, false), p] rfl ⟨fr_none h0, fr_rd (p := (kb, 0, false)) (n := n) rfl ⟨get_sees hg, _, hg, ⟨[], by simp⟩, fun _ => Nat.zero_le _⟩ hbs, fr_rd rfl r hcs, trivial⟩ ?_ (okM_noAddr _ _ _ hv) (fun o ho => by cases ho) ?_ (mw_noAddr _ _ hv) rfl
  · refine ⟨okM_sl rfl (show 2 < 3 by decide) r hp, ⟨trivial, trivial, ?_⟩, trivial⟩
    exact ⟨⟨show 1 < 3 by decide, trivial⟩, trivial⟩
  · show mw _ _ :: _ = _
    rw [mw_sl rfl]
    rfl
theorem indexB_f (g : Nat) (p : Int → Bool) (bs : List Value) (hbs : noAddrL bs = true) (xs : List Int) (n : Nat) (HG : ∀ x, Fc Try.prog g [.int .i64 x, pt 1] (BM bs (rows eI xs)) (.bool (p x)) (BM bs (rows eI xs))) (hn : xs.length = n) (hb : n ≤ 1000000) {h : AH} {s : Value} {kb sz : Nat} {op : Bool} (h0 : h.sees 0 = true) (hg : h.get kb = some (.cells ⟨bs, sz, op⟩)) (r : Rd h s n (rows eI xs)) :
    Fc Try.prog 64 [s, fB g kb] h (.int .i64 (idxF p xs)) h := by
  refine liftB rfl (fun c => ?_) hbs (rows_no (f := eI) xs) h0 hg r
  refine Fc.intro0 fn64 (by simp) rfl rfl ?_; simp only [argF, List.cons_append, List.nil_append]
  refine ITri.seq ?_
  refine ITri.reg pok ?_; simp -implicitDefEqProofs (disch := first | decide | exact of_eq_true (eq_true rfl) | omega | assumption) only [ ↓vcD, vcE, ↓vcG, vcF, evs, evP, evB, intsOf, fillC, Value.cells, pt, Value.oneCell', reduceIte, reduceCtorEq, Nat.reduceEqDiff, Nat.reduceAdd, Nat.reduceMul, Nat.reduceLT, Nat.reduceBEq, Nat.reduceLeDiff, Nat.reduceSub] -- r0 slices.go:107
  refine ITri.seq ?_
  refine ITri.seq ?_
  refine ITri.reg pok ?_; simp -implicitDefEqProofs (disch := first | decide | exact of_eq_true (eq_true rfl) | omega | assumption) only [ ↓vcD, vcE, ↓vcG, vcF, evs, evP, evB, intsOf, fillC, Value.cells, pt, Value.oneCell', reduceIte, reduceCtorEq, Nat.reduceEqDiff, Nat.reduceAdd, Nat.reduceMul, Nat.reduceLT, Nat.reduceBEq, Nat.reduceLeDiff, Nat.reduceSub] -- r1
  refine ITri.block ?_
  refine ITri.loop (fun k : Nat => [(0, .slice (some ⟨2, 0, none⟩) n c), (1, fB g 1), (7, .int .i64 n), (8, .int .i64 k)]) (fun _ => []) (fun k => BM bs (rows eI xs)) (fun k => k ≤ n ∧ ∀ j, j < k → p (nth xs j) = false) (fun k => n - k) 0 ⟨Nat.zero_le _, fun j hj => by omega⟩ (Wk.sub ⟨rfl, rfl, rfl, rfl, trivial⟩) fun k hk => ?_
  obtain ⟨hk, hj⟩ := hk
  refine ITri.seq ?_
  refine ITri.reg pok ?_; simp -implicitDefEqProofs (disch := first | decide | exact of_eq_true (eq_true rfl) | omega | assumption) only [ ↓vcD, vcE, ↓vcG, vcF, evs, evP, evB, intsOf, fillC, Value.cells, pt, Value.oneCell', reduceIte, reduceCtorEq, Nat.reduceEqDiff, Nat.reduceAdd, Nat.reduceMul, Nat.reduceLT, Nat.reduceBEq, Nat.reduceLeDiff, Nat.reduceSub]
  refine ITri.seq ?_
  refine ITri.condD (by rfl) (fun h1 => ?_) (fun h1 => ?_)
  · have h2 : k < n := by omega
    refine ITri.skip ?_; simp only [SeqQ_normal, BlkQ_normal]
    refine ITri.seq ?_
    refine ITri.block ?_
    refine ITri.seq ?_
    refine ITri.reg pok ?_; simp -implicitDefEqProofs (disch := first | decide | exact of_eq_true (eq_true rfl) | omega | assumption) only [ ↓vcD, vcE, ↓vcG, vcF, evs, evP, evB, intsOf, fillC, Value.cells, pt, Value.oneCell', reduceIte, reduceCtorEq, Nat.reduceEqDiff, Nat.reduceAdd, Nat.reduceMul, Nat.reduceLT, Nat.reduceBEq, Nat.reduceLeDiff, Nat.reduceSub]
    refine ITri.seq ?_
    refine ITri.reg pok ?_; simp -implicitDefEqProofs (disch := first | decide | exact of_eq_true (eq_true rfl) | omega | assumption) only [getI,  ↓vcD, vcE, ↓vcG, vcF, evs, evP, evB, intsOf, fillC, Value.cells, pt, Value.oneCell', reduceIte, reduceCtorEq, Nat.reduceEqDiff, Nat.reduceAdd, Nat.reduceMul, Nat.reduceLT, Nat.reduceBEq, Nat.reduceLeDiff, Nat.reduceSub]
    refine ⟨_, _, HG _, ?_⟩
    try simp -implicitDefEqProofs (disch := first | decide | exact of_eq_true (eq_true rfl) | omega | assumption) only [ ↓vcD, vcE, ↓vcG, vcF, evs, evP, evB, intsOf, fillC, Value.cells, pt, Value.oneCell', reduceIte, reduceCtorEq, Nat.reduceEqDiff, Nat.reduceAdd, Nat.reduceMul, Nat.reduceLT, Nat.reduceBEq, Nat.reduceLeDiff, Nat.reduceSub]
    refine ITri.cond (by rfl) (fun h3 => ?_) (fun h3 => ?_)
    · refine ITri.seq ?_
      refine ITri.reg pok ?_; simp -implicitDefEqProofs (disch := first | decide | exact of_eq_true (eq_true rfl) | omega | assumption) only [ ↓vcD, vcE, ↓vcG, vcF, evs, evP, evB, intsOf, fillC, Value.cells, pt, Value.oneCell', reduceIte, reduceCtorEq, Nat.reduceEqDiff, Nat.reduceAdd, Nat.reduceMul, Nat.reduceLT, Nat.reduceBEq, Nat.reduceLeDiff, Nat.reduceSub]
      refine ITri.ret ?_; exact EndR.plain (by simp) (by rfl) (by rw [idxF_some (by omega) h3 hj]; rfl) (by rfl)
    refine ITri.skip ?_; simp only [SeqQ_normal, BlkQ_normal]
    refine ITri.reg pok ?_; simp -implicitDefEqProofs (disch := first | decide | exact of_eq_true (eq_true rfl) | omega | assumption) only [ ↓vcD, vcE, ↓vcG, vcF, evs, evP, evB, intsOf, fillC, Value.cells, pt, Value.oneCell', reduceIte, reduceCtorEq, Nat.reduceEqDiff, Nat.reduceAdd, Nat.reduceMul, Nat.reduceLT, Nat.reduceBEq, Nat.reduceLeDiff, Nat.reduceSub]
    refine LoopQ.next (k + 1) ⟨by omega, fun j hj2 => ?_⟩ (by omega) (Wk.sub ⟨rfl, rfl, rfl, rfl, trivial⟩)
    rcases Nat.lt_or_ge j k with q | q
    · exact hj j q
    · obtain rfl : j = k := by omega
      exact h3
  refine ITri.exit ?_; try simp -implicitDefEqProofs (disch := first | decide | exact of_eq_true (eq_true rfl) | omega | assumption) only [ ↓vcD, vcE, ↓vcG, vcF, evs, evP, evB, intsOf, fillC, Value.cells, pt, Value.oneCell', reduceIte, reduceCtorEq, Nat.reduceEqDiff, Nat.reduceAdd, Nat.reduceMul, Nat.reduceLT, Nat.reduceBEq, Nat.reduceLeDiff, Nat.reduceSub]
  obtain rfl : n = k := by omega
  refine ITri.seq ?_
  refine ITri.reg pok ?_; simp -implicitDefEqProofs (disch := first | decide | exact of_eq_true (eq_true rfl) | omega | assumption) only [ ↓vcD, vcE, ↓vcG, vcF, evs, evP, evB, intsOf, fillC, Value.cells, pt, Value.oneCell', reduceIte, reduceCtorEq, Nat.reduceEqDiff, Nat.reduceAdd, Nat.reduceMul, Nat.reduceLT, Nat.reduceBEq, Nat.reduceLeDiff, Nat.reduceSub]
  refine ITri.ret ?_; exact EndR.plain (by simp) (by rfl) (by rw [idxF_none (any_before hn hj)]; rfl) (by rfl)
theorem containsB_f (g : Nat) (p : Int → Bool) (bs : List Value) (hbs : noAddrL bs = true) (xs : List Int) (n : Nat) (HG : ∀ x, Fc Try.prog g [.int .i64 x, pt 1] (BM bs (rows eI xs)) (.bool (p x)) (BM bs (rows eI xs))) (hn : xs.length = n) (hb : n ≤ 1000000) {h : AH} {s : Value} {kb sz : Nat} {op : Bool} (h0 : h.sees 0 = true) (hg : h.get kb = some (.cells ⟨bs, sz, op⟩)) (r : Rd h s n (rows eI xs)) :
    Fc Try.prog 32 [s, fB g kb] h (.bool (xs.any p)) h := by
  refine liftB rfl (fun c => ?_) hbs (rows_no (f := eI) xs) h0 hg r
  refine Fc.intro0 fn32 (by simp) rfl rfl ?_; simp only [argF, List.cons_append, List.nil_append]
  refine ITri.seq ?_
  refine ITri.reg pok ?_; simp -implicitDefEqProofs (disch := first | decide | exact of_eq_true (eq_true rfl) | omega | assumption) only [ ↓vcD, vcE, ↓vcG, vcF, evs, evP, evB, intsOf, fillC, Value.cells, pt, Value.oneCell', reduceIte, reduceCtorEq, Nat.reduceEqDiff, Nat.reduceAdd, Nat.reduceMul, Nat.reduceLT, Nat.reduceBEq, Nat.reduceLeDiff, Nat.reduceSub]
  refine ITri.seq ?_
  refine ITri.reg pok ?_; simp -implicitDefEqProofs (disch := first | decide | exact of_eq_true (eq_true rfl) | omega | assumption) only [ ↓vcD, vcE, ↓vcG, vcF, evs, evP, evB, intsOf, fillC, Value.cells, pt, Value.oneCell', reduceIte, reduceCtorEq, Nat.reduceEqDiff, Nat.reduceAdd, Nat.reduceMul, Nat.reduceLT, Nat.reduceBEq, Nat.reduceLeDiff, Nat.reduceSub]
  refine ⟨_, _, indexB_f g p bs hbs xs n HG hn hb (sees0 rfl (of_decide_eq_true rfl)) (get_hq rfl rfl) (Rd.hq rfl rfl), ?_⟩
  try simp -implicitDefEqProofs (disch := first | decide | exact of_eq_true (eq_true rfl) | omega | assumption) only [ ↓vcD, vcE, ↓vcG, vcF, evs, evP, evB, intsOf, fillC, Value.cells, pt, Value.oneCell', reduceIte, reduceCtorEq, Nat.reduceEqDiff, Nat.reduceAdd, Nat.reduceMul, Nat.reduceLT, Nat.reduceBEq, Nat.reduceLeDiff, Nat.reduceSub]
  refine ITri.ret ?_; exact EndR.plain (by simp) (by rfl) (by rw [idxF_any]; rfl) (by rfl)

/- boule/units.Portions$1 · slots 9 · names 0:n 1:n · results [2] -/
def ir31_r0 : IC := .reg [⟨some 2, none, false, .mv (.k (.bool false))⟩] (some [0])
def ir31_r1 : IC := .reg [⟨some 3, none, false, .mv (.t 0)⟩,
  ⟨some 4, none, false, .cmp .geq (.t 3) (.k (.int .i64 0))⟩,
  ⟨some 5, none, false, .mv (.t 4)⟩,
  ⟨some 6, some (5, true), false, .mv (.t 0)⟩,
  ⟨some 7, some (5, true), false, .cmp .leq (.t 6) (.k (.int .i64 1000000000000000))⟩,
  ⟨some 8, none, false, .pick (.t 5) (.t 7) (.k (.bool false))⟩,
  ⟨some 2, none, false, .mv (.t 8)⟩] (some [2])
def ir31_1 : IC := .seq ir31_r1 .ret
def ir31_2 : IC := .seq ir31_r0 ir31_1
def ir31 : IC := ir31_2
theorem fn31 : FnIs Try.prog 31 ir31 9 [.tmp 2] := ⟨Try.f31, Try.f31.body.getD .skip, Try.func31, by kernel_rfl, by kernel_rfl, by kernel_rfl, by kernel_rfl⟩
/- boule/units.Portions$2 · slots 8 · names 0:w 2:w · results [3] -/
def ir33_r0 : IC := .reg [⟨some 3, none, false, .mv (.k (.bool false))⟩] (some [0, 1])
def ir33_r1 : IC := .reg [⟨some 4, none, false, .ldc (.t 1)⟩,
  ⟨some 5, none, false, .mv (.t 0)⟩,
  ⟨some 6, none, false, .call (.t 4) [(.t 5)]⟩,
  ⟨some 7, none, false, .not (.t 6)⟩,
  ⟨some 3, none, false, .mv (.t 7)⟩] (some [3])
def ir33_1 : IC := .seq ir33_r1 .ret
def ir33_2 : IC := .seq ir33_r0 ir33_1
def ir33 : IC := ir33_2
theorem fn33 : FnIs Try.prog 33 ir33 8 [.tmp 3] := ⟨Try.f33, Try.f33.body.getD .skip, Try.func33, by kernel_rfl, by kernel_rfl, by kernel_rfl, by kernel_rfl⟩
/- slices.Backward[[]int,int] · slots 4 · names 0:s 1:s · results [2] -/
def ir34_r0 : IC := .reg [⟨some 1, none, false, .box (.t 0)⟩,
  ⟨some 2, none, false, .mv (.k .nilFunc)⟩] (some [1])
def ir34_r1 : IC := .reg [⟨some 3, none, false, .mkf 65 [] [(.t 1)]⟩,
  ⟨some 2, none, false, .mv (.t 3)⟩] (some [2])
def ir34_1 : IC := .seq ir34_r1 .ret
def ir34_2 : IC := .seq ir34_r0 ir34_1
def ir34 : IC := ir34_2
theorem fn34 : FnIs Try.prog 34 ir34 4 [.tmp 2] := ⟨Try.f34, Try.f34.body.getD .skip, Try.func34, by kernel_rfl, by kernel_rfl, by kernel_rfl, by kernel_rfl⟩
/- slices.Backward[[]int,int]$1 · slots 19 · names 0:yield 2:yield 3:i · results [] -/
def ir65_r0 : IC := .reg [⟨some 4, none, false, .ldc (.t 1)⟩,
  ⟨some 5, none, false, .len (.t 4)⟩,
  ⟨some 6, none, false, .ar .sub (.t 5) (.k (.int .i64 1))⟩,
  ⟨some 3, none, false, .mv (.t 6)⟩] (some [0, 1, 3])
def ir65_r1 : IC := .reg [⟨some 7, none, false, .mv (.t 3)⟩,
  ⟨some 8, none, false, .cmp .geq (.t 7) (.k (.int .i64 0))⟩] (some [0, 1, 3, 8])
def ir65_1 : IC := .cond (.t 8) .skip (.exit 0)
def ir65_2 : IC := .seq ir65_r1 ir65_1
def ir65_r3 : IC := .reg [⟨some 11, none, false, .mv (.t 0)⟩,
  ⟨some 12, none, false, .mv (.t 3)⟩,
  ⟨some 13, none, false, .ldc (.t 1)⟩,
  ⟨some 14, none, false, .mv (.t 3)⟩,
  ⟨some 15, none, false, .iad 1 (.t 13) (.t 14)⟩,
  ⟨some 16, none, false, .ldc (.t 15)⟩,
  ⟨some 17, none, false, .call (.t 11) [(.t 12), (.t 16)]⟩,
  ⟨some 18, none, false, .not (.t 17)⟩] (some [0, 1, 3, 18])
def ir65_3 : IC := .cond (.t 18) .ret .skip
def ir65_4 : IC := .seq ir65_r3 ir65_3
def ir65_5 : IC := .block 1 ir65_4
def ir65_r2 : IC := .reg [⟨some 9, none, false, .mv (.t 3)⟩,
  ⟨some 10, none, false, .ar .sub (.t 9) (.k (.int .i64 1))⟩,
  ⟨some 3, none, false, .mv (.t 10)⟩] (some [0, 1, 3])
def ir65_6 : IC := .seq ir65_5 ir65_r2
def ir65_7 : IC := .seq ir65_2 ir65_6
def ir65_8 : IC := .loop ir65_7
def ir65_9 : IC := .block 0 ir65_8
def ir65_10 : IC := .seq ir65_r0 ir65_9
def ir65 : IC := ir65_10
theorem fn65 : FnIs Try.prog 65 ir65 19 [] := ⟨Try.f65, Try.f65.body.getD .skip, Try.func65, by kernel_rfl, by kernel_rfl, by kernel_rfl, by kernel_rfl⟩
theorem num_f (x : Int) {h : AH} (h0 : h.sees 0 = true) : Fc Try.prog 31 [.int .i64 x] h (.bool (inB x 0 1000000000000000)) h := by
  refine Fc.lift0 ?_ rfl rfl h0
  refine Fc.intro0 fn31 (by simp) rfl rfl ?_; simp only [argF]
  refine ITri.seq ?_
  refine ITri.reg pok ?_; simp -implicitDefEqProofs (disch := first | decide | exact of_eq_true (eq_true rfl) | omega | assumption) only [ ↓vcD, vcE, ↓vcG, vcF, evs, evP, evB, intsOf, fillC, Value.cells, pt, Value.oneCell', reduceIte, reduceCtorEq, Nat.reduceEqDiff, Nat.reduceAdd, Nat.reduceMul, Nat.reduceLT, Nat.reduceBEq, Nat.reduceLeDiff, Nat.reduceSub]
  refine ITri.seq ?_
  by_cases g : 0 ≤ x
  · refine ITri.reg pok ?_; simp -implicitDefEqProofs (disch := first | decide | exact of_eq_true (eq_true rfl) | omega | assumption) only [g, decide_true,  ↓vcD, vcE, ↓vcG, vcF, evs, evP, evB, intsOf, fillC, Value.cells, pt, Value.oneCell', reduceIte, reduceCtorEq, Nat.reduceEqDiff, Nat.reduceAdd, Nat.reduceMul, Nat.reduceLT, Nat.reduceBEq, Nat.reduceLeDiff, Nat.reduceSub]
    refine ITri.ret ?_; exact EndR.plain (by simp) (by rfl) (by unfold inB; rw [decide_eq_true g]; rfl) (by rfl)
  · refine ITri.reg pok ?_; simp -implicitDefEqProofs (disch := first | decide | exact of_eq_true (eq_true rfl) | omega | assumption) only [g, decide_false,  ↓vcD, vcE, ↓vcG, vcF, evs, evP, evB, intsOf, fillC, Value.cells, pt, Value.oneCell', reduceIte, reduceCtorEq, Nat.reduceEqDiff, Nat.reduceAdd, Nat.reduceMul, Nat.reduceLT, Nat.reduceBEq, Nat.reduceLeDiff, Nat.reduceSub]
    refine ITri.ret ?_; exact EndR.plain (by simp) (by rfl) (by unfold inB; rw [decide_eq_false g]; rfl) (by rfl)
abbrev wiV : Value := .func (.func 31) #[] #[]
theorem nnum_f (cs : List Value) (x : Int) : Fc Try.prog 33 [.int .i64 x, pt 1] (BM [wiV] cs) (.bool (!inB x 0 1000000000000000)) (BM [wiV] cs) := by
  refine Fc.intro0 fn33 (by simp) rfl rfl ?_; simp only [argF]
  refine ITri.seq ?_
  refine ITri.reg pok ?_; simp -implicitDefEqProofs (disch := first | decide | exact of_eq_true (eq_true rfl) | omega | assumption) only [ ↓vcD, vcE, ↓vcG, vcF, evs, evP, evB, intsOf, fillC, Value.cells, pt, Value.oneCell', reduceIte, reduceCtorEq, Nat.reduceEqDiff, Nat.reduceAdd, Nat.reduceMul, Nat.reduceLT, Nat.reduceBEq, Nat.reduceLeDiff, Nat.reduceSub]
  refine ITri.seq ?_
  refine ITri.reg pok ?_; simp -implicitDefEqProofs (disch := first | decide | exact of_eq_true (eq_true rfl) | omega | assumption) only [ ↓vcD, vcE, ↓vcG, vcF, evs, evP, evB, intsOf, fillC, Value.cells, pt, Value.oneCell', reduceIte, reduceCtorEq, Nat.reduceEqDiff, Nat.reduceAdd, Nat.reduceMul, Nat.reduceLT, Nat.reduceBEq, Nat.reduceLeDiff, Nat.reduceSub]
  refine ⟨_, _, num_f x (sees0 rfl (of_decide_eq_true rfl)), ?_⟩
  try simp -implicitDefEqProofs (disch := first | decide | exact of_eq_true (eq_true rfl) | omega | assumption) only [ ↓vcD, vcE, ↓vcG, vcF, evs, evP, evB, intsOf, fillC, Value.cells, pt, Value.oneCell', reduceIte, reduceCtorEq, Nat.reduceEqDiff, Nat.reduceAdd, Nat.reduceMul, Nat.reduceLT, Nat.reduceBEq, Nat.reduceLeDiff, Nat.reduceSub]
  refine ITri.ret ?_; exact EndR.plain (by simp) (by rfl) (by rfl) (by rfl)
/-- slices.Backward: its rounds. -/
theorem back_f (k B Wn N c : Nat) (xs : List Int) (H : Nat → AH) (hN : xs.length = N) (hN1 : N ≤ 1000000)
    (hB : ∀ c', cellAt (H c') B 0 = some (.slice (some ⟨Wn, 0, none⟩) N c))
    (hW : ∀ c' i, i < N → cellAt (H c') Wn i = some (.int .i64 (nth xs i))) (hk : ∀ c', (H c').sees k = true)
    (HT : ∀ j, j < N → Yl Try.prog k [.int .i64 (N - 1 - j : Nat), .int .i64 (nth xs (N - 1 - j))] (H j) (.bool true) (H (j + 1)))
    (hg : (H 0).wlim ≤ (H 0).next → Grow (H 0) (H N)) :
    Fc Try.prog 65 [.func (.yield k) #[] #[], pt B] (H 0) (packV []) (H N) := by
  refine Fc.introX fn65 (by simp) hg ?_; simp only [argF]
  refine ITri.seq ?_
  refine ITri.reg pok ?_; simp -implicitDefEqProofs (disch := first | decide | exact of_eq_true (eq_true rfl) | omega | assumption) only [hB,  ↓vcD, vcE, ↓vcG, vcF, evs, evP, evB, intsOf, fillC, Value.cells, pt, Value.oneCell', reduceIte, reduceCtorEq, Nat.reduceEqDiff, Nat.reduceAdd, Nat.reduceMul, Nat.reduceLT, Nat.reduceBEq, Nat.reduceLeDiff, Nat.reduceSub] -- r0 iter.go:28
  refine ITri.block ?_ -- 0
  refine ITri.loop (fun j : Nat => [(0, .func (.yield k) #[] #[]), (1, pt B), (3, .int .i64 ((N : Int) - 1 - j))]) (fun _ => []) H (fun j => j ≤ N) (fun j => N - j) 0 (by omega) (Wk.sub ⟨rfl, rfl, by simp [lk], trivial⟩) fun j hj => ?_
  refine ITri.seq ?_
  refine ITri.seq ?_
  refine ITri.reg pok ?_; simp -implicitDefEqProofs (disch := first | decide | exact of_eq_true (eq_true rfl) | omega | assumption) only [ ↓vcD, vcE, ↓vcG, vcF, evs, evP, evB, intsOf, fillC, Value.cells, pt, Value.oneCell', reduceIte, reduceCtorEq, Nat.reduceEqDiff, Nat.reduceAdd, Nat.reduceMul, Nat.reduceLT, Nat.reduceBEq, Nat.reduceLeDiff, Nat.reduceSub] -- r1 iter.go:28
  refine ITri.condD (by rfl) (fun h2 => ?_) (fun h2 => ?_) -- %8
  · have hjN : j < N := by omega
    have e1 : ((N : Int) - 1 - j) = ((N - 1 - j : Nat) : Int) := by omega
    have e2 : ((N - 1 - j : Nat) : Int) - 1 = ((N : Int) - 1 - (j + 1 : Nat)) := by omega
    refine ITri.skip ?_; simp only [SeqQ_normal, BlkQ_normal]
    refine ITri.seq ?_
    refine ITri.block ?_ -- 1
    refine ITri.seq ?_
    rw [e1]
    refine ITri.reg pok ?_; simp -implicitDefEqProofs (disch := first | decide | exact of_eq_true (eq_true rfl) | omega | assumption) only [hB, hW _ (N - 1 - j) (by omega),  ↓vcD, vcE, ↓vcG, vcF, evs, evP, evB, intsOf, fillC, Value.cells, pt, Value.oneCell', reduceIte, reduceCtorEq, Nat.reduceEqDiff, Nat.reduceAdd, Nat.reduceMul, Nat.reduceLT, Nat.reduceBEq, Nat.reduceLeDiff, Nat.reduceSub] -- r3 iter.go:29 CALLS .call %11 [%12, %16]
    refine ⟨hk _, _, _, HT j hjN, ?_⟩
    try simp -implicitDefEqProofs (disch := first | decide | exact of_eq_true (eq_true rfl) | omega | assumption) only [ ↓vcD, vcE, ↓vcG, vcF, evs, evP, evB, intsOf, fillC, Value.cells, pt, Value.oneCell', reduceIte, reduceCtorEq, Nat.reduceEqDiff, Nat.reduceAdd, Nat.reduceMul, Nat.reduceLT, Nat.reduceBEq, Nat.reduceLeDiff, Nat.reduceSub]
    refine ITri.cond (v := false) rfl (fun h => by cases h) (fun _ => ?_); refine ITri.skip ?_; simp only [SeqQ_normal, BlkQ_normal]
    refine ITri.reg pok ?_; simp -implicitDefEqProofs (disch := first | decide | exact of_eq_true (eq_true rfl) | omega | assumption) only [e2,  ↓vcD, vcE, ↓vcG, vcF, evs, evP, evB, intsOf, fillC, Value.cells, pt, Value.oneCell', reduceIte, reduceCtorEq, Nat.reduceEqDiff, Nat.reduceAdd, Nat.reduceMul, Nat.reduceLT, Nat.reduceBEq, Nat.reduceLeDiff, Nat.reduceSub] -- r2 iter.go:28
    exact LoopQ.next (j + 1) (by omega) (by omega) (Wk.sub ⟨rfl, rfl, rfl, trivial⟩)
  refine ITri.exit ?_; try simp -implicitDefEqProofs (disch := first | decide | exact of_eq_true (eq_true rfl) | omega | assumption) only [ ↓vcD, vcE, ↓vcG, vcF, evs, evP, evB, intsOf, fillC, Value.cells, pt, Value.oneCell', reduceIte, reduceCtorEq, Nat.reduceEqDiff, Nat.reduceAdd, Nat.reduceMul, Nat.reduceLT, Nat.reduceBEq, Nat.reduceLeDiff, Nat.reduceSub]
  obtain rfl : N = j := by omega
  exact EndX.mk (by simp) rfl rfl rfl
theorem backward_f (n c k : Nat) {h : AH} : Fc Try.prog 34 [.slice (some ⟨k, 0, none⟩) n c] h (fB 65 h.next) (h.new (.cells ⟨[.slice (some ⟨k, 0, none⟩) n c], 1, false⟩)) := by
  refine Fc.introX fn34 (by simp) (fun hw => news_grow hw [_]) ?_; simp only [argF]
  refine ITri.seq ?_
  refine ITri.reg pok ?_; simp -implicitDefEqProofs (disch := first | decide | exact of_eq_true (eq_true rfl) | omega | assumption) only [ ↓vcD, vcE, ↓vcG, vcF, evs, evP, evB, intsOf, fillC, Value.cells, pt, Value.oneCell', reduceIte, reduceCtorEq, Nat.reduceEqDiff, Nat.reduceAdd, Nat.reduceMul, Nat.reduceLT, Nat.reduceBEq, Nat.reduceLeDiff, Nat.reduceSub]
  refine ITri.seq ?_
  refine ITri.reg pok ?_; simp -implicitDefEqProofs (disch := first | decide | exact of_eq_true (eq_true rfl) | omega | assumption) only [ ↓vcD, vcE, ↓vcG, vcF, evs, evP, evB, intsOf, fillC, Value.cells, pt, Value.oneCell', reduceIte, reduceCtorEq, Nat.reduceEqDiff, Nat.reduceAdd, Nat.reduceMul, Nat.reduceLT, Nat.reduceBEq, Nat.reduceLeDiff, Nat.reduceSub]
  refine ITri.ret ?_
  exact EndX.mk (by simp) rfl rfl rfl
end Go.Proofs.Ytlhhkmkclmedgaa
