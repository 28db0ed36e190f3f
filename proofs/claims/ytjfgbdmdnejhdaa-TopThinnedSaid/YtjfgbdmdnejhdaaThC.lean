/-
  Chapter 9 at the top: sheets, by names.
-/
import Derived.Test.YtjfgbdmdnejhdaaThB
import Derived.Test.YtjfgbdmdnejhdaaFitW
set_option linter.unusedSimpArgs false
set_option linter.unusedVariables false
namespace Go.Vm
/-- A closed run beside one row that it only reads. -/
theorem Fc.run1 {P : Program} {f : Nat} {args : List Value} {cs : List Value} {v : Value} {h1 : AH} (F : Fc P f args (Hp 2 [none, some (.cells ⟨cs, 0, false⟩)]) v h1) (hv : noAddr v = true) : Fc P f args (Hp 2 [none, some (.cells ⟨cs, 0, false⟩)]) v (Hp 2 [none, some (.cells ⟨cs, 0, false⟩)]) :=
  Fc.gc (os := []) F rfl rfl [] [] rfl List.nodup_nil (fun s hs => by cases hs) (fun p hp => by cases hp) (mv_noAddr _ _ _ hv).symm (okM_noAddr _ _ _ hv) (fun i o2 ho => by cases ho)
end Go.Vm
namespace Go.Proofs.Ytjfgbdmdnejhdaa
open Go.RowKit Go.Vm
set_option maxRecDepth 1000000
theorem ok1 : CallOk Try.prog (aRun Try.prog noHook 10000 30).rel := aRun_ok v_mixed v_names noHook_ok 10000 30
abbrev I6 (n : Int) : Value := .int .i64 n
def z4 : List (Int × Int) := [(0, 0), (0, 0), (0, 0), (0, 0)]
abbrev zr : List Value := [I6 0, I6 0, I6 0, I6 0, I6 0, I6 0, I6 0, I6 0]
theorem zr_eq : rows eII z4 = zr := rfl
abbrev shV (lo hi : Int) (s : Value) : Value := .agg #[I6 2, I6 2, I6 lo, I6 hi, s]
theorem t_hei : runV ((aRun Try.prog noHook 10000 30).fn 22 [] (Hp 1 [none])) (.agg #[I6 (-1000000), I6 1000000]) = true := by kernel_rfl
theorem t_amo : runV ((aRun Try.prog noHook 10000 30).fn 24 [] (Hp 1 [none])) (.agg #[I6 0, I6 10000000]) = true := by kernel_rfl
theorem t_hull (lo hi : Int) : runV ((aRun Try.prog noHook 10000 30).fn 29 [shV lo hi (.slice (some ⟨1, 0, none⟩) 4 4)] (Hp 2 [none, some (.cells ⟨zr, 0, false⟩)])) (.agg #[I6 0, I6 0]) = true := by kernel_rfl
theorem t_hullO (lo hi : Int) : runV ((aRun Try.prog noHook 10000 30).fn 29 [shV lo hi (.slice (some ⟨1, 0, none⟩) 4 openB)] (Hp 2 [none, some (.cells ⟨zr, 0, false⟩)])) (.agg #[I6 0, I6 0]) = true := by kernel_rfl
section
variable {h : AH} {lo hi : Int} {k sz : Nat} {op : Bool}
theorem hei_f (hs : h.sees 0 = true) : Fc Try.prog 22 [] h (.agg #[I6 (-1000000), I6 1000000]) h := by
  obtain ⟨h1, hr⟩ := runV_ok t_hei
  exact (Fc.of_run ok1 hr).plainRun rfl rfl hs
theorem amo_f (hs : h.sees 0 = true) : Fc Try.prog 24 [] h (.agg #[I6 0, I6 10000000]) h := by
  obtain ⟨h1, hr⟩ := runV_ok t_amo
  exact (Fc.of_run ok1 hr).plainRun rfl rfl hs
theorem hull_f {c : Nat} (hc : c = 4 ∨ c = openB) (h0 : h.sees 0 = true) (hg : h.get k = some (.cells ⟨zr, sz, op⟩)) : Fc Try.prog 29 [shV lo hi (.slice (some ⟨k, 0, none⟩) 4 c)] h (.agg #[I6 0, I6 0]) h := by
  refine Fc.lift1o (os := []) (n := 4) (mk := fun ss => .agg ⟨[I6 2, I6 2, I6 lo, I6 hi] ++ ss ++ []⟩ :: []) (mkv := fun _ => .agg #[I6 0, I6 0]) ?_ (MkL.agg1 (MkL.mid rfl rfl) rfl) (MkV.const rfl) rfl (fun o h => by cases h) h0 hg
  rcases hc with rfl | rfl
  · obtain ⟨h1, hr⟩ := runV_ok (t_hull lo hi)
    exact (Fc.of_run ok1 hr).run1 rfl
  · obtain ⟨h1, hr⟩ := runV_ok (t_hullO lo hi)
    exact (Fc.of_run ok1 hr).run1 rfl
end
theorem indexRB_f (g : Nat) (p : Int × Int → Bool) (bs : List Value) (hbs : noAddrL bs = true) (xs : List (Int × Int)) (n : Nat) (HG : ∀ x : Int × Int, Fc Try.prog g [.agg #[.int .i64 x.1, .int .i64 x.2], pt 1] (BM bs (rows eII xs)) (.bool (p x)) (BM bs (rows eII xs))) (hn : xs.length = n) (hb : n ≤ 1000000) {h : AH} {s : Value} {kb sz : Nat} {op : Bool} (h0 : h.sees 0 = true) (hg : h.get kb = some (.cells ⟨bs, sz, op⟩)) (r : Rd h s n (rows eII xs)) :
    Fc Try.prog 63 [s, fB g kb] h (.int .i64 (idxF p xs)) h := by
  refine liftB rfl (fun c => ?_) hbs (rows_no (f := eII) xs) h0 hg r
  refine Fc.intro0 fn63 (by simp) rfl rfl ?_; simp only [argF, List.cons_append, List.nil_append]
  refine ITri.seq ?_
  refine ITri.reg pok ?_; simp -implicitDefEqProofs (disch := first | decide | exact of_eq_true (eq_true rfl) | omega | assumption) only [ ↓vcD, vcE, ↓vcG, vcF, evs, evP, evB, intsOf, fillC, Value.cells, pt, Value.oneCell', reduceIte, reduceCtorEq, Nat.reduceEqDiff, Nat.reduceAdd, Nat.reduceMul, Nat.reduceLT, Nat.reduceBEq, Nat.reduceLeDiff, Nat.reduceSub] -- r0 slices.go:107
  refine ITri.seq ?_
  refine ITri.seq ?_
  refine ITri.reg pok ?_; simp -implicitDefEqProofs (disch := first | decide | exact of_eq_true (eq_true rfl) | omega | assumption) only [ ↓vcD, vcE, ↓vcG, vcF, evs, evP, evB, intsOf, fillC, Value.cells, pt, Value.oneCell', reduceIte, reduceCtorEq, Nat.reduceEqDiff, Nat.reduceAdd, Nat.reduceMul, Nat.reduceLT, Nat.reduceBEq, Nat.reduceLeDiff, Nat.reduceSub] -- r1
  refine ITri.block ?_
  refine ITri.loop (fun k : Nat => [(0, .slice (some ⟨2, 0, none⟩) n c), (1, fB g 1), (7, .int .i64 n), (8, .int .i64 k)]) (fun _ => []) (fun k => BM bs (rows eII xs)) (fun k => k ≤ n ∧ ∀ j, j < k → p (nth xs j) = false) (fun k => n - k) 0 ⟨Nat.zero_le _, fun j hj => by omega⟩ (Wk.sub ⟨rfl, rfl, rfl, rfl, trivial⟩) fun k hk => ?_
  obtain ⟨hk, hj⟩ := hk
  refine ITri.seq ?_
  refine ITri.reg pok ?_; simp -implicitDefEqProofs (disch := first | decide | exact of_eq_true (eq_true rfl) | omega | assumption) only [ ↓vcD, vcE, ↓vcG, vcF, evs, evP, evB, intsOf, fillC, Value.cells, pt, Value.oneCell', reduceIte, reduceCtorEq, Nat.reduceEqDiff, Nat.reduceAdd, Nat.reduceMul, Nat.reduceLT, Nat.reduceBEq, Nat.reduceLeDiff, Nat.reduceSub]
  refine ITri.seq ?_
  refine ITri.condD (by rfl) (fun h1 => ?_) (fun h1 => ?_)
  · have h2 : k < n := by omega
    refine ITri.skip ?_; simp only [SeqQ_normal, BlkQ_normal]
    refine ITri.seq ?_
    refine ITri.block ?_
    refine ITri.seq ?_
    refine ITri.reg pok ?_; simp -implicitDefEqProofs (disch := first | decide | exact of_eq_true (eq_true rfl) | omega | assumption) only [ ↓vcD, vcE, ↓vcG, vcF, evs, evP, evB, intsOf, fillC, Value.cells, pt, Value.oneCell', reduceIte, reduceCtorEq, Nat.reduceEqDiff, Nat.reduceAdd, Nat.reduceMul, Nat.reduceLT, Nat.reduceBEq, Nat.reduceLeDiff, Nat.reduceSub]
    refine ITri.seq ?_
    refine ITri.reg pok ?_; simp -implicitDefEqProofs (disch := first | decide | exact of_eq_true (eq_true rfl) | omega | assumption) only [takeII,  ↓vcD, vcE, ↓vcG, vcF, evs, evP, evB, intsOf, fillC, Value.cells, pt, Value.oneCell', reduceIte, reduceCtorEq, Nat.reduceEqDiff, Nat.reduceAdd, Nat.reduceMul, Nat.reduceLT, Nat.reduceBEq, Nat.reduceLeDiff, Nat.reduceSub]
    refine ⟨_, _, HG _, ?_⟩
    try simp -implicitDefEqProofs (disch := first | decide | exact of_eq_true (eq_true rfl) | omega | assumption) only [ ↓vcD, vcE, ↓vcG, vcF, evs, evP, evB, intsOf, fillC, Value.cells, pt, Value.oneCell', reduceIte, reduceCtorEq, Nat.reduceEqDiff, Nat.reduceAdd, Nat.reduceMul, Nat.reduceLT, Nat.reduceBEq, Nat.reduceLeDiff, Nat.reduceSub]
    refine ITri.cond (by rfl) (fun h3 => ?_) (fun h3 => ?_)
    · refine ITri.seq ?_
      refine ITri.reg pok ?_; simp -implicitDefEqProofs (disch := first | decide | exact of_eq_true (eq_true rfl) | omega | assumption) only [ ↓vcD, vcE, ↓vcG, vcF, evs, evP, evB, intsOf, fillC, Value.cells, pt, Value.oneCell', reduceIte, reduceCtorEq, Nat.reduceEqDiff, Nat.reduceAdd, Nat.reduceMul, Nat.reduceLT, Nat.reduceBEq, Nat.reduceLeDiff, Nat.reduceSub]
      refine ITri.ret ?_; exact EndR.plain (by simp) (by rfl) (by rw [idxF_some (by omega) h3 hj]; rfl) (by rfl)
    refine ITri.skip ?_; simp only [SeqQ_normal, BlkQ_normal]
    refine ITri.reg pok ?_; simp -implicitDefEqProofs (disch := first | decide | exact of_eq_true (eq_true rfl) | omega | assumption) only [ ↓vcD, vcE, ↓vcG, vcF, evs, evP, evB, intsOf, fillC, Value.cells, pt, Value.oneCell', reduceIte, reduceCtorEq, Nat.reduceEqDiff, Nat.reduceAdd, Nat.reduceMul, Nat.reduceLT, Nat.reduceBEq, Nat.reduceLeDiff, Nat.reduceSub]
    refine LoopQ.next (k + 1) ⟨by omega, fun j hj2 => ?_⟩ (by omega) (Wk.sub ⟨rfl, rfl, rfl, rfl, trivial⟩)
    rcases Nat.lt_or_ge j k with q | q
    · exact hj j q
    · obtain rfl : j = k := by omega
      exact h3
  refine ITri.exit ?_; try simp -implicitDefEqProofs (disch := first | decide | exact of_eq_true (eq_true rfl) | omega | assumption) only [ ↓vcD, vcE, ↓vcG, vcF, evs, evP, evB, intsOf, fillC, Value.cells, pt, Value.oneCell', reduceIte, reduceCtorEq, Nat.reduceEqDiff, Nat.reduceAdd, Nat.reduceMul, Nat.reduceLT, Nat.reduceBEq, Nat.reduceLeDiff, Nat.reduceSub]
  obtain rfl : n = k := by omega
  refine ITri.seq ?_
  refine ITri.reg pok ?_; simp -implicitDefEqProofs (disch := first | decide | exact of_eq_true (eq_true rfl) | omega | assumption) only [ ↓vcD, vcE, ↓vcG, vcF, evs, evP, evB, intsOf, fillC, Value.cells, pt, Value.oneCell', reduceIte, reduceCtorEq, Nat.reduceEqDiff, Nat.reduceAdd, Nat.reduceMul, Nat.reduceLT, Nat.reduceBEq, Nat.reduceLeDiff, Nat.reduceSub]
  refine ITri.ret ?_; exact EndR.plain (by simp) (by rfl) (by rw [idxF_none (any_before hn hj)]; rfl) (by rfl)
theorem containsRB_f (g : Nat) (p : Int × Int → Bool) (bs : List Value) (hbs : noAddrL bs = true) (xs : List (Int × Int)) (n : Nat) (HG : ∀ x : Int × Int, Fc Try.prog g [.agg #[.int .i64 x.1, .int .i64 x.2], pt 1] (BM bs (rows eII xs)) (.bool (p x)) (BM bs (rows eII xs))) (hn : xs.length = n) (hb : n ≤ 1000000) {h : AH} {s : Value} {kb sz : Nat} {op : Bool} (h0 : h.sees 0 = true) (hg : h.get kb = some (.cells ⟨bs, sz, op⟩)) (r : Rd h s n (rows eII xs)) :
    Fc Try.prog 49 [s, fB g kb] h (.bool (xs.any p)) h := by
  refine liftB rfl (fun c => ?_) hbs (rows_no (f := eII) xs) h0 hg r
  refine Fc.intro0 fn49 (by simp) rfl rfl ?_; simp only [argF, List.cons_append, List.nil_append]
  refine ITri.seq ?_
  refine ITri.reg pok ?_; simp -implicitDefEqProofs (disch := first | decide | exact of_eq_true (eq_true rfl) | omega | assumption) only [ ↓vcD, vcE, ↓vcG, vcF, evs, evP, evB, intsOf, fillC, Value.cells, pt, Value.oneCell', reduceIte, reduceCtorEq, Nat.reduceEqDiff, Nat.reduceAdd, Nat.reduceMul, Nat.reduceLT, Nat.reduceBEq, Nat.reduceLeDiff, Nat.reduceSub]
  refine ITri.seq ?_
  refine ITri.reg pok ?_; simp -implicitDefEqProofs (disch := first | decide | exact of_eq_true (eq_true rfl) | omega | assumption) only [ ↓vcD, vcE, ↓vcG, vcF, evs, evP, evB, intsOf, fillC, Value.cells, pt, Value.oneCell', reduceIte, reduceCtorEq, Nat.reduceEqDiff, Nat.reduceAdd, Nat.reduceMul, Nat.reduceLT, Nat.reduceBEq, Nat.reduceLeDiff, Nat.reduceSub]
  refine ⟨_, _, indexRB_f g p bs hbs xs n HG hn hb (sees0 rfl (of_decide_eq_true rfl)) (get_hq rfl rfl) (Rd.hq rfl rfl), ?_⟩
  try simp -implicitDefEqProofs (disch := first | decide | exact of_eq_true (eq_true rfl) | omega | assumption) only [ ↓vcD, vcE, ↓vcG, vcF, evs, evP, evB, intsOf, fillC, Value.cells, pt, Value.oneCell', reduceIte, reduceCtorEq, Nat.reduceEqDiff, Nat.reduceAdd, Nat.reduceMul, Nat.reduceLT, Nat.reduceBEq, Nat.reduceLeDiff, Nat.reduceSub]
  refine ITri.ret ?_; exact EndR.plain (by simp) (by rfl) (by rw [idxF_any]; rfl) (by rfl)
/- (boule/finish.limits).has · slots 9 · names 0:l 1:r 2:l 3:r · results [4] -/
def ir23_r0 : IC := .reg [⟨some 2, none, false, .box (.t 0)⟩,
  ⟨some 4, none, false, .mv (.k (.bool false))⟩] (some [1, 2])
def ir23_r1 : IC := .reg [⟨some 5, none, false, .mv (.t 1)⟩,
  ⟨some 6, none, false, .mkf 50 [] [(.t 2)]⟩,
  ⟨some 7, none, false, .call (.f 49) [(.t 5), (.t 6)]⟩,
  ⟨some 8, none, false, .not (.t 7)⟩,
  ⟨some 4, none, false, .mv (.t 8)⟩] (some [4])
def ir23_1 : IC := .seq ir23_r1 .ret
def ir23_2 : IC := .seq ir23_r0 ir23_1
def ir23 : IC := ir23_2
theorem fn23 : FnIs Try.prog 23 ir23 9 [.tmp 4] := ⟨Try.f23, Try.f23.body.getD .skip, Try.func23, by kernel_rfl, by kernel_rfl, by kernel_rfl, by kernel_rfl⟩
/- (boule/finish.limits).has$1 · slots 23 · names 0:r 2:r · results [3] -/
def ir50_r0 : IC := .reg [⟨some 2, none, false, .box (.t 0)⟩,
  ⟨some 3, none, false, .mv (.k (.bool false))⟩] (some [1, 2])
def ir50_r1 : IC := .reg [⟨some 4, none, false, .fad 0 (.t 2)⟩,
  ⟨some 5, none, false, .ldc (.t 4)⟩,
  ⟨some 6, none, false, .iada 2 1 (.t 1) (.k (.int .i64 0))⟩,
  ⟨some 7, none, false, .ldc (.t 6)⟩,
  ⟨some 8, none, false, .cmp .lss (.t 5) (.t 7)⟩,
  ⟨some 9, none, false, .mv (.t 8)⟩,
  ⟨some 10, some (9, false), false, .fad 0 (.t 2)⟩,
  ⟨some 11, some (9, false), false, .ldc (.t 10)⟩,
  ⟨some 12, some (9, false), false, .fad 1 (.t 2)⟩,
  ⟨some 13, some (9, false), false, .ldc (.t 12)⟩,
  ⟨some 14, some (9, false), false, .cmp .gtr (.t 11) (.t 13)⟩,
  ⟨some 15, none, false, .pick (.t 9) (.k (.bool true)) (.t 14)⟩,
  ⟨some 16, none, false, .mv (.t 15)⟩,
  ⟨some 17, some (16, false), false, .fad 1 (.t 2)⟩,
  ⟨some 18, some (16, false), false, .ldc (.t 17)⟩,
  ⟨some 19, some (16, false), false, .iada 2 1 (.t 1) (.k (.int .i64 1))⟩,
  ⟨some 20, some (16, false), false, .ldc (.t 19)⟩,
  ⟨some 21, some (16, false), false, .cmp .gtr (.t 18) (.t 20)⟩,
  ⟨some 22, none, false, .pick (.t 16) (.k (.bool true)) (.t 21)⟩,
  ⟨some 3, none, false, .mv (.t 22)⟩] (some [3])
def ir50_1 : IC := .seq ir50_r1 .ret
def ir50_2 : IC := .seq ir50_r0 ir50_1
def ir50 : IC := ir50_2
theorem fn50 : FnIs Try.prog 50 ir50 23 [.tmp 3] := ⟨Try.f50, Try.f50.body.getD .skip, Try.func50, by kernel_rfl, by kernel_rfl, by kernel_rfl, by kernel_rfl⟩
/- boule/finish.CheckSheet · slots 47 · names 0:s 1:s · results [2] -/
def ir7_r0 : IC := .reg [⟨some 1, none, false, .box (.t 0)⟩,
  ⟨some 2, none, false, .mv (.k (.int .i64 0))⟩] (some [1])
def ir7_r1 : IC := .draw [(⟨some 3, none, false, .fad 0 (.t 1)⟩, false, 0, 0),
  (⟨some 4, none, false, .ldc (.t 3)⟩, true, 1, 0),
  (⟨some 5, none, false, .cmp .lss (.t 4) (.k (.int .i64 2))⟩, false, 3, 0),
  (⟨some 6, none, false, .mv (.t 5)⟩, false, 7, 0),
  (⟨some 7, some (6, false), false, .fad 0 (.t 1)⟩, false, 15, 0),
  (⟨some 8, some (6, false), false, .ldc (.t 7)⟩, true, 31, 0),
  (⟨some 9, some (6, false), false, .cmp .gtr (.t 8) (.k (.int .i64 6))⟩, false, 63, 0),
  (⟨some 10, none, false, .pick (.t 6) (.k (.bool true)) (.t 9)⟩, false, 127, 0),
  (⟨some 11, none, false, .mv (.t 10)⟩, false, 255, 0),
  (⟨some 12, some (11, false), false, .fad 1 (.t 1)⟩, false, 511, 0),
  (⟨some 13, some (11, false), false, .ldc (.t 12)⟩, true, 1023, 0),
  (⟨some 14, some (11, false), false, .cmp .lss (.t 13) (.k (.int .i64 2))⟩, false, 2047, 0),
  (⟨some 15, none, false, .pick (.t 11) (.k (.bool true)) (.t 14)⟩, false, 4095, 0),
  (⟨some 16, none, false, .mv (.t 15)⟩, false, 8191, 0),
  (⟨some 17, some (16, false), false, .fad 1 (.t 1)⟩, false, 16383, 0),
  (⟨some 18, some (16, false), false, .ldc (.t 17)⟩, true, 32767, 0),
  (⟨some 19, some (16, false), false, .cmp .gtr (.t 18) (.k (.int .i64 6))⟩, false, 65535, 0),
  (⟨some 20, none, false, .pick (.t 16) (.k (.bool true)) (.t 19)⟩, false, 131071, 0),
  (⟨some 21, none, false, .mv (.t 20)⟩, false, 262143, 0),
  (⟨some 22, some (21, false), false, .fad 4 (.t 1)⟩, false, 524287, 0),
  (⟨some 23, some (21, false), false, .ldc (.t 22)⟩, false, 1048575, 1),
  (⟨some 24, some (21, false), false, .len (.t 23)⟩, false, 2097151, 1),
  (⟨some 25, some (21, false), false, .fad 0 (.t 1)⟩, false, 524287, 0),
  (⟨some 26, some (21, false), false, .ldc (.t 25)⟩, false, 4718591, 2097152),
  (⟨some 27, some (21, false), false, .fad 1 (.t 1)⟩, false, 524287, 0),
  (⟨some 28, some (21, false), false, .ldc (.t 27)⟩, false, 17301503, 6291456),
  (⟨some 29, some (21, false), false, .ar .mul (.t 26) (.t 28)⟩, false, 63438847, 0),
  (⟨some 30, some (21, false), false, .cmp .neq (.t 24) (.t 29)⟩, false, 134217727, 0),
  (⟨some 31, none, false, .pick (.t 21) (.k (.bool true)) (.t 30)⟩, false, 268435455, 0),
  (⟨some 32, none, false, .mv (.t 31)⟩, false, 536870911, 0),
  (⟨some 33, some (32, false), false, .call (.f 22) []⟩, false, 1073741823, 1),
  (⟨some 34, some (32, false), false, .fad 4 (.t 1)⟩, false, 1073741823, 0),
  (⟨some 35, some (32, false), false, .ldc (.t 34)⟩, false, 3221225471, 1073741824),
  (⟨some 36, some (32, false), false, .call (.f 23) [(.t 33), (.t 35)]⟩, true, 8589934591, 0),
  (⟨some 37, some (32, false), false, .not (.t 36)⟩, false, 17179869183, 0),
  (⟨some 38, none, false, .pick (.t 32) (.k (.bool true)) (.t 37)⟩, false, 34359738367, 0),
  (⟨some 39, none, false, .mv (.t 38)⟩, false, 68719476735, 0),
  (⟨some 40, some (39, false), false, .call (.f 24) []⟩, false, 137438953471, 1),
  (⟨some 41, some (39, false), false, .fad 2 (.t 1)⟩, false, 137438953471, 0),
  (⟨some 42, some (39, false), false, .lda 2 (.t 41)⟩, false, 412316860415, 137438953472),
  (⟨some 43, some (39, false), false, .bsl 2 1 [(.int .i64 0), (.int .i64 0)] [(0, (.t 42))]⟩, false, 962072674303, 137438953472),
  (⟨some 44, some (39, false), false, .call (.f 23) [(.t 40), (.t 43)]⟩, true, 2199023255551, 0),
  (⟨some 45, some (39, false), false, .not (.t 44)⟩, false, 4398046511103, 0),
  (⟨some 46, none, false, .pick (.t 39) (.k (.bool true)) (.t 45)⟩, false, 8796093022207, 0)] (some [46])
def ir7_r2 : IC := .reg [⟨some 2, none, false, .mv (.k (.int .i64 2))⟩] (some [2])
def ir7_1 : IC := .seq ir7_r2 .ret
def ir7_2 : IC := .cond (.t 46) ir7_1 .skip
def ir7_3 : IC := .seq ir7_r1 ir7_2
def ir7_r3 : IC := .reg [⟨some 2, none, false, .mv (.k (.int .i64 0))⟩] (some [2])
def ir7_4 : IC := .seq ir7_r3 .ret
def ir7_5 : IC := .seq ir7_3 ir7_4
def ir7_6 : IC := .seq ir7_r0 ir7_5
def ir7 : IC := ir7_6
theorem fn7 : FnIs Try.prog 7 ir7 47 [.tmp 2] := ⟨Try.f7, Try.f7.body.getD .skip, Try.func7, by kernel_rfl, by kernel_rfl, by kernel_rfl, by kernel_rfl⟩
/- boule/finish.Thickness · slots 16 · names 0:s 1:s · results [2, 3] -/
def ir13_r0 : IC := .reg [⟨some 1, none, false, .box (.t 0)⟩,
  ⟨some 2, none, false, .alloc [(.int .i64 0), (.int .i64 0)]⟩,
  ⟨some 3, none, false, .mv (.k (.int .i64 0))⟩] (some [1, 2])
def ir13_r1 : IC := .reg [⟨some 4, none, false, .lda 5 (.t 1)⟩,
  ⟨some 5, none, false, .call (.f 7) [(.t 4)]⟩,
  ⟨some 6, none, false, .cmp .neq (.t 5) (.k (.int .i64 0))⟩] (some [1, 2, 6])
def ir13_r2 : IC := .reg [⟨some 7, none, false, .bld [(.int .i64 0), (.int .i64 0)] []⟩,
  ⟨none, none, false, .st 2 (.t 2) (.t 7)⟩,
  ⟨some 3, none, false, .mv (.k (.int .i64 2))⟩] (some [2, 3])
def ir13_1 : IC := .seq ir13_r2 .ret
def ir13_2 : IC := .cond (.t 6) ir13_1 .skip
def ir13_3 : IC := .seq ir13_r1 ir13_2
def ir13_r3 : IC := .draw [(⟨some 8, none, false, .lda 5 (.t 1)⟩, false, 0, 1),
  (⟨some 9, none, false, .call (.f 29) [(.t 8)]⟩, false, 1, 1),
  (⟨some 10, none, false, .fad 2 (.t 1)⟩, false, 0, 0),
  (⟨some 11, none, false, .lda 2 (.t 10)⟩, false, 4, 2),
  (⟨some 12, none, false, .bsl 2 2 [(.int .i64 0), (.int .i64 0), (.int .i64 0), (.int .i64 0)] [(0, (.t 9)), (1, (.t 11))]⟩, true, 15, 0),
  (⟨some 13, none, false, .call (.f 11) [(.t 12)]⟩, true, 31, 0),
  (⟨some 14, none, false, .ext (.t 13) 0⟩, false, 63, 0),
  (⟨some 15, none, false, .ext (.t 13) 1⟩, false, 63, 0),
  (⟨none, none, false, .st 2 (.t 2) (.t 14)⟩, true, 255, 0),
  (⟨some 3, none, false, .mv (.t 15)⟩, false, 511, 0)] (some [2, 3])
def ir13_4 : IC := .seq ir13_r3 .ret
def ir13_5 : IC := .seq ir13_3 ir13_4
def ir13_6 : IC := .seq ir13_r0 ir13_5
def ir13 : IC := ir13_6
theorem fn13 : FnIs Try.prog 13 ir13 16 [.cell 2 23, .tmp 3] := ⟨Try.f13, Try.f13.body.getD .skip, Try.func13, by kernel_rfl, by kernel_rfl, by kernel_rfl, by kernel_rfl⟩
/-- A range that is not within limits. -/
def outR (a b : Int) (x : Int × Int) : Bool := decide (x.1 < a) || decide (x.1 > x.2) || decide (x.2 > b)
theorem tn1 : Int.toNat 1 = 1 := rfl
theorem outR_f (a b : Int) (cs : List Value) (x : Int × Int) : Fc Try.prog 50 [.agg #[I6 x.1, I6 x.2], pt 1] (BM [I6 a, I6 b] cs) (.bool (outR a b x)) (BM [I6 a, I6 b] cs) := by
  refine Fc.intro0 fn50 (by simp) rfl rfl ?_; simp only [argF]
  obtain ⟨x, y⟩ := x
  show ITri _ _ _ _ _ _ _ _ (EndR _ _ _ _ (.bool (decide (x < a) || decide (x > y) || decide (y > b))))
  refine ITri.seq ?_
  refine ITri.reg pok ?_; simp -implicitDefEqProofs (disch := first | decide | exact of_eq_true (eq_true rfl) | omega | assumption) only [ ↓vcD, vcE, ↓vcG, vcF, evs, evP, evB, intsOf, fillC, Value.cells, pt, Value.oneCell', reduceIte, reduceCtorEq, Nat.reduceEqDiff, Nat.reduceAdd, Nat.reduceMul, Nat.reduceLT, Nat.reduceBEq, Nat.reduceLeDiff, Nat.reduceSub] -- r0
  refine ITri.seq ?_
  by_cases c1 : x < a
  · rw [decide_eq_true c1]
    refine ITri.reg pok ?_; simp -implicitDefEqProofs (disch := first | decide | exact of_eq_true (eq_true rfl) | omega | assumption) only [c1, decide_true, Int.toNat_zero, tn1,  ↓vcD, vcE, ↓vcG, vcF, evs, evP, evB, intsOf, fillC, Value.cells, pt, Value.oneCell', reduceIte, reduceCtorEq, Nat.reduceEqDiff, Nat.reduceAdd, Nat.reduceMul, Nat.reduceLT, Nat.reduceBEq, Nat.reduceLeDiff, Nat.reduceSub] -- r1
    refine ITri.ret ?_; exact EndR.plain (by simp) (by rfl) (by rfl) (by rfl)
  by_cases c2 : x > y
  · rw [decide_eq_false c1, decide_eq_true c2]
    refine ITri.reg pok ?_; simp -implicitDefEqProofs (disch := first | decide | exact of_eq_true (eq_true rfl) | omega | assumption) only [c1, c2, decide_true, decide_false, Int.toNat_zero, tn1,  ↓vcD, vcE, ↓vcG, vcF, evs, evP, evB, intsOf, fillC, Value.cells, pt, Value.oneCell', reduceIte, reduceCtorEq, Nat.reduceEqDiff, Nat.reduceAdd, Nat.reduceMul, Nat.reduceLT, Nat.reduceBEq, Nat.reduceLeDiff, Nat.reduceSub] -- r1
    refine ITri.ret ?_; exact EndR.plain (by simp) (by rfl) (by rfl) (by rfl)
  rw [decide_eq_false c1, decide_eq_false c2]
  refine ITri.reg pok ?_; simp -implicitDefEqProofs (disch := first | decide | exact of_eq_true (eq_true rfl) | omega | assumption) only [c1, c2, decide_false, Int.toNat_zero, tn1,  ↓vcD, vcE, ↓vcG, vcF, evs, evP, evB, intsOf, fillC, Value.cells, pt, Value.oneCell', reduceIte, reduceCtorEq, Nat.reduceEqDiff, Nat.reduceAdd, Nat.reduceMul, Nat.reduceLT, Nat.reduceBEq, Nat.reduceLeDiff, Nat.reduceSub] -- r1
  refine ITri.ret ?_; exact EndR.plain (by simp) (by rfl) (by rfl) (by rfl)
theorem has_f (a b : Int) (xs : List (Int × Int)) (n : Nat) (hn : xs.length = n) (hb : n ≤ 1000000) {h : AH} {s : Value} (h0 : h.sees 0 = true) (r : Rd h s n (rows eII xs)) :
    Fc Try.prog 23 [.agg #[I6 a, I6 b], s] h (.bool (!xs.any (outR a b))) h := by
  refine Fc.lift1 (mk := fun ss => [.agg #[I6 a, I6 b]] ++ ss ++ []) (mkv := fun _ => .bool (!xs.any (outR a b))) (os := []) (fun c => ?_) (MkL.mid rfl rfl) (MkV.const rfl) (rows_no (f := eII) xs) (fun o ho => by cases ho) h0 r
  refine Fc.intro0 (h := H1 (rows eII xs)) fn23 (by simp) rfl rfl ?_; simp only [argF, List.cons_append, List.nil_append]
  refine ITri.seq ?_
  refine ITri.reg pok ?_; simp -implicitDefEqProofs (disch := first | decide | exact of_eq_true (eq_true rfl) | omega | assumption) only [ ↓vcD, vcE, ↓vcG, vcF, evs, evP, evB, intsOf, fillC, Value.cells, pt, Value.oneCell', reduceIte, reduceCtorEq, Nat.reduceEqDiff, Nat.reduceAdd, Nat.reduceMul, Nat.reduceLT, Nat.reduceBEq, Nat.reduceLeDiff, Nat.reduceSub] -- r0
  refine ITri.seq ?_
  refine ITri.reg pok ?_; simp -implicitDefEqProofs (disch := first | decide | exact of_eq_true (eq_true rfl) | omega | assumption) only [ ↓vcD, vcE, ↓vcG, vcF, evs, evP, evB, intsOf, fillC, Value.cells, pt, Value.oneCell', reduceIte, reduceCtorEq, Nat.reduceEqDiff, Nat.reduceAdd, Nat.reduceMul, Nat.reduceLT, Nat.reduceBEq, Nat.reduceLeDiff, Nat.reduceSub] -- r1
  refine ⟨_, _, containsRB_f 50 (outR a b) [I6 a, I6 b] rfl xs n (fun x => outR_f a b _ x) hn hb (sees0 rfl (of_decide_eq_true rfl)) (get_hq rfl rfl) (Rd.hq rfl rfl), ?_⟩
  try simp -implicitDefEqProofs (disch := first | decide | exact of_eq_true (eq_true rfl) | omega | assumption) only [ ↓vcD, vcE, ↓vcG, vcF, evs, evP, evB, intsOf, fillC, Value.cells, pt, Value.oneCell', reduceIte, reduceCtorEq, Nat.reduceEqDiff, Nat.reduceAdd, Nat.reduceMul, Nat.reduceLT, Nat.reduceBEq, Nat.reduceLeDiff, Nat.reduceSub]
  refine ITri.ret ?_; exact EndR.plain (by simp) (by rfl) (by rfl) (by rfl)
section
variable {h : AH} {lo hi : Int} {k sz : Nat} {op : Bool}
theorem out_no {a b x y : Int} (h1 : a ≤ x) (h2 : x ≤ y) (h3 : y ≤ b) : outR a b (x, y) = false := by
  unfold outR
  rw [decide_eq_false (show ¬ x < a by omega), decide_eq_false (show ¬ x > y by omega), decide_eq_false (show ¬ y > b by omega)]
  rfl
theorem sheet_f {c : Nat} (h1 : 0 ≤ lo) (h2 : lo ≤ hi) (h3 : hi ≤ 10000000) (h0 : h.sees 0 = true) (hg : h.get k = some (.cells ⟨zr, sz, op⟩)) : Fc Try.prog 7 [shV lo hi (.slice (some ⟨k, 0, none⟩) 4 c)] h (I6 0) h := by
  refine Fc.lift1o (os := []) (n := 4) (mk := fun ss => .agg ⟨[I6 2, I6 2, I6 lo, I6 hi] ++ ss ++ []⟩ :: []) (mkv := fun _ => I6 0) ?_ (MkL.agg1 (MkL.mid rfl rfl) rfl) (MkV.const rfl) rfl (fun o h => by cases h) h0 hg
  refine Fc.intro0 (h := H1 zr) fn7 (by simp) rfl rfl ?_; simp only [argF, List.cons_append, List.nil_append]
  have e1 : [(lo, hi)].any (outR 0 10000000) = false := by simp [out_no h1 h2 h3]
  have e2 : z4.any (outR (-1000000) 1000000) = false := by decide
  have n1 : ¬ (2 : Int) < 2 := by decide
  have n2 : ¬ (2 : Int) > 6 := by decide
  have n3 : (((4 : Nat) : Int) = 2 * 2) = True := eq_true rfl
  refine ITri.seq ?_
  refine ITri.reg pok ?_; simp -implicitDefEqProofs (disch := first | decide | exact of_eq_true (eq_true rfl) | omega | assumption) only [ ↓vcD, vcE, ↓vcG, vcF, evs, evP, evB, intsOf, fillC, Value.cells, pt, Value.oneCell', reduceIte, reduceCtorEq, Nat.reduceEqDiff, Nat.reduceAdd, Nat.reduceMul, Nat.reduceLT, Nat.reduceBEq, Nat.reduceLeDiff, Nat.reduceSub] -- r0
  refine ITri.seq ?_
  refine ITri.seq ?_
  refine ITri.draw pok ?_; simp -implicitDefEqProofs (disch := first | decide | exact of_eq_true (eq_true rfl) | omega | assumption) only [n1, n2, n3, decide_true, decide_false, Bool.not_true,  ↓vcD, vcE, ↓vcG, vcF, evs, evP, evB, intsOf, fillC, Value.cells, pt, Value.oneCell', reduceIte, reduceCtorEq, Nat.reduceEqDiff, Nat.reduceAdd, Nat.reduceMul, Nat.reduceLT, Nat.reduceBEq, Nat.reduceLeDiff, Nat.reduceSub] -- r1
  refine ⟨_, _, hei_f (sees0 rfl (of_decide_eq_true rfl)), ?_⟩
  try simp -implicitDefEqProofs (disch := first | decide | exact of_eq_true (eq_true rfl) | omega | assumption) only [ ↓vcD, vcE, ↓vcG, vcF, evs, evP, evB, intsOf, fillC, Value.cells, pt, Value.oneCell', reduceIte, reduceCtorEq, Nat.reduceEqDiff, Nat.reduceAdd, Nat.reduceMul, Nat.reduceLT, Nat.reduceBEq, Nat.reduceLeDiff, Nat.reduceSub]
  refine ⟨_, _, has_f _ _ z4 4 rfl (by decide) (sees0 rfl (of_decide_eq_true rfl)) (Rd.hq rfl rfl), ?_⟩
  simp -implicitDefEqProofs (disch := first | decide | exact of_eq_true (eq_true rfl) | omega | assumption) only [e2, Bool.not_false, Bool.not_true,  ↓vcD, vcE, ↓vcG, vcF, evs, evP, evB, intsOf, fillC, Value.cells, pt, Value.oneCell', reduceIte, reduceCtorEq, Nat.reduceEqDiff, Nat.reduceAdd, Nat.reduceMul, Nat.reduceLT, Nat.reduceBEq, Nat.reduceLeDiff, Nat.reduceSub]
  refine ⟨_, _, amo_f (sees0 rfl (of_decide_eq_true rfl)), ?_⟩
  try simp -implicitDefEqProofs (disch := first | decide | exact of_eq_true (eq_true rfl) | omega | assumption) only [ ↓vcD, vcE, ↓vcG, vcF, evs, evP, evB, intsOf, fillC, Value.cells, pt, Value.oneCell', reduceIte, reduceCtorEq, Nat.reduceEqDiff, Nat.reduceAdd, Nat.reduceMul, Nat.reduceLT, Nat.reduceBEq, Nat.reduceLeDiff, Nat.reduceSub]
  refine ⟨_, _, has_f _ _ [(lo, hi)] 1 rfl (by decide) (sees0 rfl (of_decide_eq_true rfl)) (Rd.hq rfl rfl), ?_⟩
  simp -implicitDefEqProofs (disch := first | decide | exact of_eq_true (eq_true rfl) | omega | assumption) only [e1, Bool.not_false, Bool.not_true,  ↓vcD, vcE, ↓vcG, vcF, evs, evP, evB, intsOf, fillC, Value.cells, pt, Value.oneCell', reduceIte, reduceCtorEq, Nat.reduceEqDiff, Nat.reduceAdd, Nat.reduceMul, Nat.reduceLT, Nat.reduceBEq, Nat.reduceLeDiff, Nat.reduceSub]
  refine ITri.cond (v := false) rfl (fun h => by cases h) (fun _ => ?_); refine ITri.skip ?_; simp only [SeqQ_normal, BlkQ_normal]
  refine ITri.seq ?_
  refine ITri.reg pok ?_; simp -implicitDefEqProofs (disch := first | decide | exact of_eq_true (eq_true rfl) | omega | assumption) only [ ↓vcD, vcE, ↓vcG, vcF, evs, evP, evB, intsOf, fillC, Value.cells, pt, Value.oneCell', reduceIte, reduceCtorEq, Nat.reduceEqDiff, Nat.reduceAdd, Nat.reduceMul, Nat.reduceLT, Nat.reduceBEq, Nat.reduceLeDiff, Nat.reduceSub] -- r3
  refine ITri.ret ?_; exact EndR.plain (by simp) (by rfl) (by rfl) (by rfl)
theorem thick_h {c : Nat} (hc : c = 4 ∨ c = openB) (h1 : 0 ≤ lo) (h2 : lo ≤ hi) (h3 : hi ≤ 10000000) (h0 : h.sees 0 = true) (hg : h.get k = some (.cells ⟨zr, sz, op⟩)) : Fc Try.prog 13 [shV lo hi (.slice (some ⟨k, 0, none⟩) 4 c)] h (.tuple #[.agg #[I6 lo, I6 hi], I6 0]) h := by
  refine Fc.lift1o (os := []) (n := 4) (mk := fun ss => .agg ⟨[I6 2, I6 2, I6 lo, I6 hi] ++ ss ++ []⟩ :: []) (mkv := fun _ => .tuple #[.agg #[I6 lo, I6 hi], I6 0]) ?_ (MkL.agg1 (MkL.mid rfl rfl) rfl) (MkV.const rfl) rfl (fun o h => by cases h) h0 hg
  refine Fc.intro0 (h := H1 zr) fn13 (by simp) rfl rfl ?_; simp only [argF, List.cons_append, List.nil_append]
  have b1 : badR (0, 0) = false := by decide
  have b2 : badR (lo, hi) = false := bad_no (by omega) h2 (by omega)
  have hv : [(0, 0), (lo, hi)].any badR = false := by simp [b1, b2]
  have p1 : pL [(0, 0), (lo, hi)] 2 = lo := by show 0 + 0 + lo = lo; omega
  have p2 : pH [(0, 0), (lo, hi)] 2 = hi := by show 0 + 0 + hi = hi; omega
  have ho : sumOK [(0, 0), (lo, hi)] 2 := fun k hk => by
    match k, hk with
    | 0, _ => exact ⟨show (-1000000000000000 : Int) ≤ 0 by decide, show (0 : Int) ≤ 1000000000000000 by decide, show (-1000000000000000 : Int) ≤ 0 by decide, show (0 : Int) ≤ 1000000000000000 by decide⟩
    | 1, _ => exact ⟨show (-1000000000000000 : Int) ≤ 0 by decide, show (0 : Int) ≤ 1000000000000000 by decide, show (-1000000000000000 : Int) ≤ 0 by decide, show (0 : Int) ≤ 1000000000000000 by decide⟩
    | 2, _ => rw [p1, p2]; omega
  refine ITri.seq ?_
  refine ITri.reg pok ?_; simp -implicitDefEqProofs (disch := first | decide | exact of_eq_true (eq_true rfl) | omega | assumption) only [ ↓vcD, vcE, ↓vcG, vcF, evs, evP, evB, intsOf, fillC, Value.cells, pt, Value.oneCell', reduceIte, reduceCtorEq, Nat.reduceEqDiff, Nat.reduceAdd, Nat.reduceMul, Nat.reduceLT, Nat.reduceBEq, Nat.reduceLeDiff, Nat.reduceSub] -- r0
  refine ITri.seq ?_
  refine ITri.seq ?_
  refine ITri.reg pok ?_; simp -implicitDefEqProofs (disch := first | decide | exact of_eq_true (eq_true rfl) | omega | assumption) only [ ↓vcD, vcE, ↓vcG, vcF, evs, evP, evB, intsOf, fillC, Value.cells, pt, Value.oneCell', reduceIte, reduceCtorEq, Nat.reduceEqDiff, Nat.reduceAdd, Nat.reduceMul, Nat.reduceLT, Nat.reduceBEq, Nat.reduceLeDiff, Nat.reduceSub] -- r1
  refine ⟨_, _, sheet_f h1 h2 h3 (sees0 rfl (of_decide_eq_true rfl)) (get_hq rfl rfl), ?_⟩
  simp -implicitDefEqProofs (disch := first | decide | exact of_eq_true (eq_true rfl) | omega | assumption) only [decide_true, Bool.not_true,  ↓vcD, vcE, ↓vcG, vcF, evs, evP, evB, intsOf, fillC, Value.cells, pt, Value.oneCell', reduceIte, reduceCtorEq, Nat.reduceEqDiff, Nat.reduceAdd, Nat.reduceMul, Nat.reduceLT, Nat.reduceBEq, Nat.reduceLeDiff, Nat.reduceSub]
  refine ITri.cond (v := false) rfl (fun h => by cases h) (fun _ => ?_); refine ITri.skip ?_; simp only [SeqQ_normal, BlkQ_normal]
  refine ITri.seq ?_
  refine ITri.draw pok ?_; simp -implicitDefEqProofs (disch := first | decide | exact of_eq_true (eq_true rfl) | omega | assumption) only [ ↓vcD, vcE, ↓vcG, vcF, evs, evP, evB, intsOf, fillC, Value.cells, pt, Value.oneCell', reduceIte, reduceCtorEq, Nat.reduceEqDiff, Nat.reduceAdd, Nat.reduceMul, Nat.reduceLT, Nat.reduceBEq, Nat.reduceLeDiff, Nat.reduceSub] -- r3
  refine ⟨_, _, hull_f hc (sees0 rfl (of_decide_eq_true rfl)) (get_hq rfl rfl), ?_⟩
  try simp -implicitDefEqProofs (disch := first | decide | exact of_eq_true (eq_true rfl) | omega | assumption) only [ ↓vcD, vcE, ↓vcG, vcF, evs, evP, evB, intsOf, fillC, Value.cells, pt, Value.oneCell', reduceIte, reduceCtorEq, Nat.reduceEqDiff, Nat.reduceAdd, Nat.reduceMul, Nat.reduceLT, Nat.reduceBEq, Nat.reduceLeDiff, Nat.reduceSub]
  refine ⟨_, _, usum_f (xs := [(0, 0), (lo, hi)]) (n := 2) rfl (by decide) hv ho (sees0 rfl (of_decide_eq_true rfl)) (Rd.hq rfl rfl), ?_⟩
  rw [p1, p2]
  simp -implicitDefEqProofs (disch := first | decide | exact of_eq_true (eq_true rfl) | omega | assumption) only [wr22,  ↓vcD, vcE, ↓vcG, vcF, evs, evP, evB, intsOf, fillC, Value.cells, pt, Value.oneCell', reduceIte, reduceCtorEq, Nat.reduceEqDiff, Nat.reduceAdd, Nat.reduceMul, Nat.reduceLT, Nat.reduceBEq, Nat.reduceLeDiff, Nat.reduceSub]
  refine ITri.ret ?_; exact EndR.plain (vs := [.agg ⟨[I6 lo, I6 hi]⟩, I6 0]) (by simp) (resF_agg 2 rfl (by kernel_rfl) (by simp -implicitDefEqProofs (disch := first | decide | exact of_eq_true (eq_true rfl) | omega | assumption) only [↓vcD, vcE, ↓vcG, vcF, evs, evP, evB, intsOf, fillC, Value.cells, pt, Value.oneCell', reduceIte, reduceCtorEq, Nat.reduceEqDiff, Nat.reduceAdd, Nat.reduceMul, Nat.reduceLT, Nat.reduceBEq, Nat.reduceLeDiff, Nat.reduceSub]) (resF_tmp rfl resF_nil)) (by rfl) (by rfl)
end
end Go.Proofs.Ytjfgbdmdnejhdaa
