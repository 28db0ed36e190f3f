/-
  Chapters 8 to 10 at the top: helpers; numbers, ranges, closures over a box.
-/
import Derived.Test.YtjfgbdmdnejhdaaFitKv
import Derived.Test.YtjfgbdmdnejhdaaMj
set_option linter.unusedSimpArgs false
set_option linter.unusedVariables false
namespace Go.Proofs.Ytjfgbdmdnejhdaa
open Go.RowKit Go.Vm
set_option maxRecDepth 100000
instance flI : FlatE eI 1 := ⟨fun _ => rfl, fun _ => rfl, fun _ => rfl⟩
instance flII : FlatE eII 2 := ⟨fun _ => rfl, fun _ => rfl, fun _ => rfl⟩
theorem getI {xs : List Int} {i : Nat} (hi : i < xs.length) : (rows eI xs)[i]? = some (.int .i64 (nth xs i)) := rows_get1 (f := eI) hi
abbrev H1 (cs : List Value) : AH := Hp 2 [none, some (.cells ⟨cs, 0, false⟩)]
abbrev s1 (n c : Nat) : Value := .slice (some ⟨1, 0, none⟩) n c
def idxF {α : Type} (p : α → Bool) (xs : List α) : Int := match xs.findIdx? p with | some i => (i : Int) | none => -1
theorem idxF_none {α : Type} {p : α → Bool} {xs : List α} (h : xs.any p = false) : idxF p xs = -1 := by
  unfold idxF
  rw [List.findIdx?_eq_none_iff.2 (fun x hx => by simpa using List.any_eq_false.1 h x hx)]
theorem idxF_some {α : Type} [Inhabited α] {p : α → Bool} {xs : List α} {i : Nat} (hi : i < xs.length) (hp : p (nth xs i) = true) (hb : ∀ j, j < i → p (nth xs j) = false) : idxF p xs = i := by
  unfold idxF
  rw [List.findIdx?_eq_some_iff_getElem.2 ⟨hi, by rw [← List.getElem?_eq_some_iff.1 (get_nth hi) |>.2] at hp; exact hp, fun j hj => by
    have := hb j hj
    rw [← List.getElem?_eq_some_iff.1 (get_nth (show j < xs.length by omega)) |>.2] at this
    simp [this]⟩]
theorem idxF_any {α : Type} {p : α → Bool} {xs : List α} : decide (0 ≤ idxF p xs) = xs.any p := by
  cases h : xs.any p with
  | false => rw [idxF_none h]; rfl
  | true =>
    unfold idxF
    cases e : xs.findIdx? p with
    | none => rw [List.findIdx?_eq_none_iff] at e; rw [List.any_eq_true] at h; obtain ⟨x, hx, h⟩ := h; rw [e x hx] at h; cases h
    | some i => simp
theorem any_before {α : Type} [Inhabited α] {p : α → Bool} {xs : List α} {n : Nat} (hn : xs.length = n) (hj : ∀ j, j < n → p (nth xs j) = false) : xs.any p = false := by
  rw [List.any_eq_false]
  intro x hx
  obtain ⟨i, hi, rfl⟩ := List.mem_iff_getElem.1 hx
  have := hj i (by omega)
  rw [show xs[i] = nth xs i from (List.getElem?_eq_some_iff.1 (get_nth hi)).2]
  simp [this]

/- slices.IndexFunc[[]int,int] · slots 19 · names 0:s 1:f 2:s 3:f 5:i · results [4] -/
def ir55_r0 : IC := .reg [⟨some 4, none, false, .mv (.k (.int .i64 0))⟩] (some [0, 1])
def ir55_r1 : IC := .reg [⟨some 6, none, false, .mv (.t 0)⟩,
  ⟨some 7, none, false, .len (.t 6)⟩,
  ⟨some 8, none, false, .mv (.k (.int .i64 0))⟩] (some [0, 1, 7, 8])
def ir55_r2 : IC := .reg [⟨some 9, none, false, .cmp .lss (.t 8) (.t 7)⟩] (some [0, 1, 7, 8, 9])
def ir55_1 : IC := .cond (.t 9) .skip (.exit 0)
def ir55_r3 : IC := .reg [⟨some 10, none, false, .mv (.t 8)⟩,
  ⟨some 5, none, false, .mv (.t 10)⟩] (some [0, 1, 5, 7, 8])
def ir55_r4 : IC := .reg [⟨some 11, none, false, .mv (.t 1)⟩,
  ⟨some 12, none, false, .mv (.t 0)⟩,
  ⟨some 13, none, false, .mv (.t 5)⟩,
  ⟨some 14, none, false, .iad 1 (.t 12) (.t 13)⟩,
  ⟨some 15, none, false, .ldc (.t 14)⟩,
  ⟨some 16, none, false, .call (.t 11) [(.t 15)]⟩] (some [0, 1, 5, 7, 8, 16])
def ir55_r5 : IC := .reg [⟨some 17, none, false, .mv (.t 5)⟩,
  ⟨some 4, none, false, .mv (.t 17)⟩] (some [4])
def ir55_2 : IC := .seq ir55_r5 .ret
def ir55_3 : IC := .cond (.t 16) ir55_2 .skip
def ir55_4 : IC := .seq ir55_r4 ir55_3
def ir55_5 : IC := .seq ir55_r3 ir55_4
def ir55_6 : IC := .block 1 ir55_5
def ir55_r6 : IC := .reg [⟨some 18, none, false, .ar .add (.t 8) (.k (.int .i64 1))⟩,
  ⟨some 8, none, false, .mv (.t 18)⟩] (some [0, 1, 7, 8])
def ir55_7 : IC := .seq ir55_6 ir55_r6
def ir55_8 : IC := .seq ir55_1 ir55_7
def ir55_9 : IC := .seq ir55_r2 ir55_8
def ir55_10 : IC := .loop ir55_9
def ir55_11 : IC := .block 0 ir55_10
def ir55_12 : IC := .seq ir55_r1 ir55_11
def ir55_r7 : IC := .reg [⟨some 4, none, false, .mv (.k (.int .i64 (-1)))⟩] (some [4])
def ir55_13 : IC := .seq ir55_r7 .ret
def ir55_14 : IC := .seq ir55_12 ir55_13
def ir55_15 : IC := .seq ir55_r0 ir55_14
def ir55 : IC := ir55_15
theorem fn55 : FnIs Try.prog 55 ir55 19 [.tmp 4] := ⟨Try.f55, Try.f55.body.getD .skip, Try.func55, by kernel_rfl, by kernel_rfl, by kernel_rfl, by kernel_rfl⟩
/- slices.ContainsFunc[[]int,int] · slots 9 · names 0:s 1:f 2:s 3:f · results [4] -/
def ir36_r0 : IC := .reg [⟨some 4, none, false, .mv (.k (.bool false))⟩] (some [0, 1])
def ir36_r1 : IC := .reg [⟨some 5, none, false, .mv (.t 0)⟩,
  ⟨some 6, none, false, .mv (.t 1)⟩,
  ⟨some 7, none, false, .call (.f 55) [(.t 5), (.t 6)]⟩,
  ⟨some 8, none, false, .cmp .geq (.t 7) (.k (.int .i64 0))⟩,
  ⟨some 4, none, false, .mv (.t 8)⟩] (some [4])
def ir36_1 : IC := .seq ir36_r1 .ret
def ir36_2 : IC := .seq ir36_r0 ir36_1
def ir36 : IC := ir36_2
theorem fn36 : FnIs Try.prog 36 ir36 9 [.tmp 4] := ⟨Try.f36, Try.f36.body.getD .skip, Try.func36, by kernel_rfl, by kernel_rfl, by kernel_rfl, by kernel_rfl⟩
end Go.Proofs.Ytjfgbdmdnejhdaa

namespace Go.Proofs.Ytjfgbdmdnejhdaa
open Go.RowKit Go.Vm
set_option maxRecDepth 100000

/- boule/slice.within · slots 15 · names 0:n 1:least 2:most 3:n 4:least 5:most · results [6] -/
def ir42_r0 : IC := .reg [⟨some 6, none, false, .mv (.k (.bool false))⟩] (some [0, 1, 2])
def ir42_r1 : IC := .reg [⟨some 7, none, false, .mv (.t 0)⟩,
  ⟨some 8, none, false, .mv (.t 1)⟩,
  ⟨some 9, none, false, .cmp .geq (.t 7) (.t 8)⟩,
  ⟨some 10, none, false, .mv (.t 9)⟩,
  ⟨some 11, some (10, true), false, .mv (.t 0)⟩,
  ⟨some 12, some (10, true), false, .mv (.t 2)⟩,
  ⟨some 13, some (10, true), false, .cmp .leq (.t 11) (.t 12)⟩,
  ⟨some 14, none, false, .pick (.t 10) (.t 13) (.k (.bool false))⟩,
  ⟨some 6, none, false, .mv (.t 14)⟩] (some [6])
def ir42_1 : IC := .seq ir42_r1 .ret
def ir42_2 : IC := .seq ir42_r0 ir42_1
def ir42 : IC := ir42_2
theorem fn42 : FnIs Try.prog 42 ir42 15 [.tmp 6] := ⟨Try.f42, Try.f42.body.getD .skip, Try.func42, by kernel_rfl, by kernel_rfl, by kernel_rfl, by kernel_rfl⟩
/- boule/slice.isRange · slots 24 · names 0:r 1:least 2:most 3:r 4:least 5:most · results [6] -/
def ir60_r0 : IC := .reg [⟨some 3, none, false, .box (.t 0)⟩,
  ⟨some 6, none, false, .mv (.k (.bool false))⟩] (some [1, 2, 3])
def ir60_r1 : IC := .reg [⟨some 7, none, false, .mv (.t 1)⟩,
  ⟨some 8, none, false, .fad 0 (.t 3)⟩,
  ⟨some 9, none, false, .ldc (.t 8)⟩,
  ⟨some 10, none, false, .cmp .leq (.t 7) (.t 9)⟩,
  ⟨some 11, none, false, .mv (.t 10)⟩,
  ⟨some 12, some (11, true), false, .fad 0 (.t 3)⟩,
  ⟨some 13, some (11, true), false, .ldc (.t 12)⟩,
  ⟨some 14, some (11, true), false, .fad 1 (.t 3)⟩,
  ⟨some 15, some (11, true), false, .ldc (.t 14)⟩,
  ⟨some 16, some (11, true), false, .cmp .leq (.t 13) (.t 15)⟩,
  ⟨some 17, none, false, .pick (.t 11) (.t 16) (.k (.bool false))⟩,
  ⟨some 18, none, false, .mv (.t 17)⟩,
  ⟨some 19, some (18, true), false, .fad 1 (.t 3)⟩,
  ⟨some 20, some (18, true), false, .ldc (.t 19)⟩,
  ⟨some 21, some (18, true), false, .mv (.t 2)⟩,
  ⟨some 22, some (18, true), false, .cmp .leq (.t 20) (.t 21)⟩,
  ⟨some 23, none, false, .pick (.t 18) (.t 22) (.k (.bool false))⟩,
  ⟨some 6, none, false, .mv (.t 23)⟩] (some [6])
def ir60_1 : IC := .seq ir60_r1 .ret
def ir60_2 : IC := .seq ir60_r0 ir60_1
def ir60 : IC := ir60_2
theorem fn60 : FnIs Try.prog 60 ir60 24 [.tmp 6] := ⟨Try.f60, Try.f60.body.getD .skip, Try.func60, by kernel_rfl, by kernel_rfl, by kernel_rfl, by kernel_rfl⟩
/-- Between two others. -/
def inB (n a b : Int) : Bool := decide (a ≤ n) && decide (n ≤ b)
theorem within_f (n a b : Int) {h : AH} (hs : h.sees 0 = true) : Fc Try.prog 42 [.int .i64 n, .int .i64 a, .int .i64 b] h (.bool (inB n a b)) h := by
  refine Fc.lift0 ?_ rfl rfl hs
  refine Fc.intro0 fn42 (by simp) rfl rfl ?_; simp only [argF]
  refine ITri.seq ?_
  refine ITri.reg pok ?_; simp -implicitDefEqProofs (disch := first | decide | exact of_eq_true (eq_true rfl) | omega | assumption) only [ ↓vcD, vcE, ↓vcG, vcF, evs, evP, evB, intsOf, fillC, Value.cells, pt, Value.oneCell', reduceIte, reduceCtorEq, Nat.reduceEqDiff, Nat.reduceAdd, Nat.reduceMul, Nat.reduceLT, Nat.reduceBEq, Nat.reduceLeDiff, Nat.reduceSub]
  refine ITri.seq ?_
  by_cases g : a ≤ n
  · refine ITri.reg pok ?_; simp -implicitDefEqProofs (disch := first | decide | exact of_eq_true (eq_true rfl) | omega | assumption) only [g, decide_true,  ↓vcD, vcE, ↓vcG, vcF, evs, evP, evB, intsOf, fillC, Value.cells, pt, Value.oneCell', reduceIte, reduceCtorEq, Nat.reduceEqDiff, Nat.reduceAdd, Nat.reduceMul, Nat.reduceLT, Nat.reduceBEq, Nat.reduceLeDiff, Nat.reduceSub]
    refine ITri.ret ?_; exact EndR.plain (by simp) (by rfl) (by unfold inB; rw [decide_eq_true g]; rfl) (by rfl)
  · refine ITri.reg pok ?_; simp -implicitDefEqProofs (disch := first | decide | exact of_eq_true (eq_true rfl) | omega | assumption) only [g, decide_false,  ↓vcD, vcE, ↓vcG, vcF, evs, evP, evB, intsOf, fillC, Value.cells, pt, Value.oneCell', reduceIte, reduceCtorEq, Nat.reduceEqDiff, Nat.reduceAdd, Nat.reduceMul, Nat.reduceLT, Nat.reduceBEq, Nat.reduceLeDiff, Nat.reduceSub]
    refine ITri.ret ?_; exact EndR.plain (by simp) (by rfl) (by unfold inB; rw [decide_eq_false g]; rfl) (by rfl)
def rngB (l h a b : Int) : Bool := decide (a ≤ l) && decide (l ≤ h) && decide (h ≤ b)
theorem isRange_f (l k a b : Int) {h : AH} (hs : h.sees 0 = true) : Fc Try.prog 60 [.agg #[.int .i64 l, .int .i64 k], .int .i64 a, .int .i64 b] h (.bool (rngB l k a b)) h := by
  refine Fc.lift0 ?_ rfl rfl hs
  refine Fc.intro0 fn60 (by simp) rfl rfl ?_; simp only [argF]
  refine ITri.seq ?_
  refine ITri.reg pok ?_; simp -implicitDefEqProofs (disch := first | decide | exact of_eq_true (eq_true rfl) | omega | assumption) only [ ↓vcD, vcE, ↓vcG, vcF, evs, evP, evB, intsOf, fillC, Value.cells, pt, Value.oneCell', reduceIte, reduceCtorEq, Nat.reduceEqDiff, Nat.reduceAdd, Nat.reduceMul, Nat.reduceLT, Nat.reduceBEq, Nat.reduceLeDiff, Nat.reduceSub]
  refine ITri.seq ?_
  by_cases g : a ≤ l
  · by_cases g2 : l ≤ k
    · refine ITri.reg pok ?_; simp -implicitDefEqProofs (disch := first | decide | exact of_eq_true (eq_true rfl) | omega | assumption) only [g, g2, decide_true,  ↓vcD, vcE, ↓vcG, vcF, evs, evP, evB, intsOf, fillC, Value.cells, pt, Value.oneCell', reduceIte, reduceCtorEq, Nat.reduceEqDiff, Nat.reduceAdd, Nat.reduceMul, Nat.reduceLT, Nat.reduceBEq, Nat.reduceLeDiff, Nat.reduceSub]
      refine ITri.ret ?_; exact EndR.plain (by simp) (by rfl) (by unfold rngB; rw [decide_eq_true g, decide_eq_true g2]; rfl) (by rfl)
    · refine ITri.reg pok ?_; simp -implicitDefEqProofs (disch := first | decide | exact of_eq_true (eq_true rfl) | omega | assumption) only [g, g2, decide_true, decide_false,  ↓vcD, vcE, ↓vcG, vcF, evs, evP, evB, intsOf, fillC, Value.cells, pt, Value.oneCell', reduceIte, reduceCtorEq, Nat.reduceEqDiff, Nat.reduceAdd, Nat.reduceMul, Nat.reduceLT, Nat.reduceBEq, Nat.reduceLeDiff, Nat.reduceSub]
      refine ITri.ret ?_; exact EndR.plain (by simp) (by rfl) (by unfold rngB; rw [decide_eq_true g, decide_eq_false g2]; rfl) (by rfl)
  · refine ITri.reg pok ?_; simp -implicitDefEqProofs (disch := first | decide | exact of_eq_true (eq_true rfl) | omega | assumption) only [g, decide_false,  ↓vcD, vcE, ↓vcG, vcF, evs, evP, evB, intsOf, fillC, Value.cells, pt, Value.oneCell', reduceIte, reduceCtorEq, Nat.reduceEqDiff, Nat.reduceAdd, Nat.reduceMul, Nat.reduceLT, Nat.reduceBEq, Nat.reduceLeDiff, Nat.reduceSub]
    refine ITri.ret ?_; exact EndR.plain (by simp) (by rfl) (by unfold rngB; rw [decide_eq_false g]; rfl) (by rfl)
theorem rng_ok {l k a b : Int} (h : rngB l k a b = true) : a ≤ l ∧ l ≤ k ∧ k ≤ b := by
  unfold rngB at h
  simp only [Bool.and_eq_true, decide_eq_true_eq] at h
  exact ⟨h.1.1, h.1.2, h.2⟩
end Go.Proofs.Ytjfgbdmdnejhdaa

namespace Go.Proofs.Ytjfgbdmdnejhdaa
open Go.RowKit Go.Vm
set_option maxRecDepth 100000

/-- The sum of the first numbers. -/
def pS (xs : List Int) (k : Nat) : Int := (xs.take k).sum
/-- Lengths of kerfs and slices, one behind the other. -/
def ivF (K S : List Int) : Nat → List Int
  | 0 => []
  | i + 1 => ivF K S i ++ (nth K i :: (S.drop i).take 1)
def lnF (t : Int) (K S : List Int) (i : Nat) : List Int := t :: ivF K S i
def lensF (t b : Int) (K S : List Int) : List Int := lnF t K S K.length ++ [b]
abbrev sO (a n : Nat) : Value := .slice (some ⟨a, 0, none⟩) n openB
abbrev ptV (a b s k : Nat) (t u : Int) : Value := .agg #[sO a s, sO b k, .int .i64 t, .int .i64 u]
abbrev PM (S K : List Int) : List (Option AObj) := [none, some (.cells ⟨rows eI S, 0, false⟩), some (.cells ⟨rows eI K, 0, false⟩)]
/-- Parts of a block. -/
structure PV (S K : List Int) (t u : Int) : Prop where
  k2 : K.length ≤ 2000
  s : S.length = K.length - 1
  z : K.length = 0 → u = 0
  all : ∀ x ∈ lensF t u K S, 0 ≤ x ∧ x ≤ 600000000
  sum : 1 ≤ pS (lensF t u K S) (lensF t u K S).length ∧ pS (lensF t u K S) (lensF t u K S).length ≤ 600000000
end Go.Proofs.Ytjfgbdmdnejhdaa

namespace Go.Proofs.Ytjfgbdmdnejhdaa
open Go.RowKit Go.Vm
set_option maxRecDepth 100000

abbrev fB (g k : Nat) : Value := .func (.func g) #[] #[pt k]
abbrev BM (bs cs : List Value) : AH := Hp 3 [none, some (.cells ⟨bs, 0, false⟩), some (.cells ⟨cs, 0, false⟩)]
/-- A function of a slice and a closure over a box, lifted. -/
theorem liftB {f g n : Nat} {bs cs : List Value} {v : Value} (hv : noAddr v = true) (F : ∀ c, Fc Try.prog f [.slice (some ⟨2, 0, none⟩) n c, fB g 1] (BM bs cs) v (BM bs cs)) (hbs : noAddrL bs = true) (hcs : noAddrL cs = true) {h : AH} {s : Value} {kb sz : Nat} {op : Bool} (h0 : h.sees 0 = true) (hg : h.get kb = some (.cells ⟨bs, sz, op⟩)) (r : Rd h s n cs) :
    Fc Try.prog f [s, fB g kb] h v h := by
  obtain ⟨p, c, rfl, r, hp⟩ := r
  refine Fc.frameL (Lc := [none, some (.cells ⟨bs, 0, false⟩), some (.cells ⟨cs, 0, false⟩)]) (os := []) (F c) [(0, 0, false), (kb, 0, false), p] rfl ⟨fr_none h0, fr_rd (p := (kb, 0, false)) (n := n) rfl ⟨get_sees hg, _, hg, ⟨[], by simp⟩, fun _ => Nat.zero_le _⟩ hbs, fr_rd rfl r hcs, trivial⟩ ?_ (okM_noAddr _ _ _ hv) (fun o ho => by cases ho) ?_ (mw_noAddr _ _ hv) rfl
  · refine ⟨okM_sl rfl (show 2 < 3 by decide) r hp, ⟨trivial, trivial, ?_⟩, trivial⟩
    exact ⟨⟨show 1 < 3 by decide, trivial⟩, trivial⟩
  · show mw _ _ :: _ = _
    rw [mw_sl rfl]
    rfl
theorem indexB_f (g : Nat) (p : Int → Bool) (bs : List Value) (hbs : noAddrL bs = true) (xs : List Int) (n : Nat) (HG : ∀ x, Fc Try.prog g [.int .i64 x, pt 1] (BM bs (rows eI xs)) (.bool (p x)) (BM bs (rows eI xs))) (hn : xs.length = n) (hb : n ≤ 1000000) {h : AH} {s : Value} {kb sz : Nat} {op : Bool} (h0 : h.sees 0 = true) (hg : h.get kb = some (.cells ⟨bs, sz, op⟩)) (r : Rd h s n (rows eI xs)) :
    Fc Try.prog 55 [s, fB g kb] h (.int .i64 (idxF p xs)) h := by
  refine liftB rfl (fun c => ?_) hbs (rows_no (f := eI) xs) h0 hg r
  refine Fc.intro0 fn55 (by simp) rfl rfl ?_; simp only [argF, List.cons_append, List.nil_append]
  refine ITri.seq ?_
  refine ITri.reg pok ?_; simp -implicitDefEqProofs (disch := first | decide | exact of_eq_true (eq_true rfl) | omega | assumption) only [ ↓vcD, vcE, ↓vcG, vcF, evs, evP, evB, intsOf, fillC, Value.cells, pt, Value.oneCell', reduceIte, reduceCtorEq, Nat.reduceEqDiff, Nat.reduceAdd, Nat.reduceMul, Nat.reduceLT, Nat.reduceBEq, Nat.reduceLeDiff, Nat.reduceSub] -- r0 slices.go:107
  refine ITri.seq ?_
  refine ITri.seq ?_
  refine ITri.reg pok ?_; simp -implicitDefEqProofs (disch := first | decide | exact of_eq_true (eq_true rfl) | omega | assumption) only [ ↓vcD, vcE, ↓vcG, vcF, evs, evP, evB, intsOf, fillC, Value.cells, pt, Value.oneCell', reduceIte, reduceCtorEq, Nat.reduceEqDiff, Nat.reduceAdd, Nat.reduceMul, Nat.reduceLT, Nat.reduceBEq, Nat.reduceLeDiff, Nat.reduceSub] -- r1
  refine ITri.block ?_
  refine ITri.loop (fun k : Nat => [(0, .slice (some ⟨2, 0, none⟩) n c), (1, fB g 1), (7, .int .i64 n), (8, .int .i64 k)]) (fun _ => []) (fun k => BM bs (rows eI xs)) (fun k => k ≤ n ∧ ∀ j, j < k → p (nth xs j) = false) (fun k => n - k) 0 ⟨Nat.zero_le _, fun j hj => by omega⟩ (Wk.sub ⟨rfl, rfl, rfl, rfl, trivial⟩) fun k hk => ?_
  obtain ⟨hk, hj⟩ := hk
  refine ITri.seq ?_
  refine ITri.reg pok ?_; simp -implicitDefEqProofs (disch := first | decide | exact of_eq_true (eq_true rfl) | omega | assumption) only [ ↓vcD, vcE, ↓vcG, vcF, evs, evP, evB, intsOf, fillC, Value.cells, pt, Value.oneCell', reduceIte, reduceCtorEq, Nat.reduceEqDiff, Nat.reduceAdd, Nat.reduceMul, Nat.reduceLT, Nat.reduceBEq, Nat.reduceLeDiff, Nat.reduceSub]
  refine ITri.seq ?_
  refine ITri.condD (by rfl) (fun h1 => ?_) (fun h1 => ?_)
  · have h2 : k < n := by omega
    refine ITri.skip ?_; simp only [SeqQ_normal, BlkQ_normal]
    refine ITri.seq ?_
    refine ITri.block ?_
    refine ITri.seq ?_
    refine ITri.reg pok ?_; simp -implicitDefEqProofs (disch := first | decide | exact of_eq_true (eq_true rfl) | omega | assumption) only [ ↓vcD, vcE, ↓vcG, vcF, evs, evP, evB, intsOf, fillC, Value.cells, pt, Value.oneCell', reduceIte, reduceCtorEq, Nat.reduceEqDiff, Nat.reduceAdd, Nat.reduceMul, Nat.reduceLT, Nat.reduceBEq, Nat.reduceLeDiff, Nat.reduceSub]
    refine ITri.seq ?_
    refine ITri.reg pok ?_; simp -implicitDefEqProofs (disch := first | decide | exact of_eq_true (eq_true rfl) | omega | assumption) only [getI,  ↓vcD, vcE, ↓vcG, vcF, evs, evP, evB, intsOf, fillC, Value.cells, pt, Value.oneCell', reduceIte, reduceCtorEq, Nat.reduceEqDiff, Nat.reduceAdd, Nat.reduceMul, Nat.reduceLT, Nat.reduceBEq, Nat.reduceLeDiff, Nat.reduceSub]
    refine ⟨_, _, HG _, ?_⟩
    try simp -implicitDefEqProofs (disch := first | decide | exact of_eq_true (eq_true rfl) | omega | assumption) only [ ↓vcD, vcE, ↓vcG, vcF, evs, evP, evB, intsOf, fillC, Value.cells, pt, Value.oneCell', reduceIte, reduceCtorEq, Nat.reduceEqDiff, Nat.reduceAdd, Nat.reduceMul, Nat.reduceLT, Nat.reduceBEq, Nat.reduceLeDiff, Nat.reduceSub]
    refine ITri.cond (by rfl) (fun h3 => ?_) (fun h3 => ?_)
    · refine ITri.seq ?_
      refine ITri.reg pok ?_; simp -implicitDefEqProofs (disch := first | decide | exact of_eq_true (eq_true rfl) | omega | assumption) only [ ↓vcD, vcE, ↓vcG, vcF, evs, evP, evB, intsOf, fillC, Value.cells, pt, Value.oneCell', reduceIte, reduceCtorEq, Nat.reduceEqDiff, Nat.reduceAdd, Nat.reduceMul, Nat.reduceLT, Nat.reduceBEq, Nat.reduceLeDiff, Nat.reduceSub]
      refine ITri.ret ?_; exact EndR.plain (by simp) (by rfl) (by rw [idxF_some (by omega) h3 hj]; rfl) (by rfl)
    refine ITri.skip ?_; simp only [SeqQ_normal, BlkQ_normal]
    refine ITri.reg pok ?_; simp -implicitDefEqProofs (disch := first | decide | exact of_eq_true (eq_true rfl) | omega | assumption) only [ ↓vcD, vcE, ↓vcG, vcF, evs, evP, evB, intsOf, fillC, Value.cells, pt, Value.oneCell', reduceIte, reduceCtorEq, Nat.reduceEqDiff, Nat.reduceAdd, Nat.reduceMul, Nat.reduceLT, Nat.reduceBEq, Nat.reduceLeDiff, Nat.reduceSub]
    refine LoopQ.next (k + 1) ⟨by omega, fun j hj2 => ?_⟩ (by omega) (Wk.sub ⟨rfl, rfl, rfl, rfl, trivial⟩)
    rcases Nat.lt_or_ge j k with q | q
    · exact hj j q
    · obtain rfl : j = k := by omega
      exact h3
  refine ITri.exit ?_; try simp -implicitDefEqProofs (disch := first | decide | exact of_eq_true (eq_true rfl) | omega | assumption) only [ ↓vcD, vcE, ↓vcG, vcF, evs, evP, evB, intsOf, fillC, Value.cells, pt, Value.oneCell', reduceIte, reduceCtorEq, Nat.reduceEqDiff, Nat.reduceAdd, Nat.reduceMul, Nat.reduceLT, Nat.reduceBEq, Nat.reduceLeDiff, Nat.reduceSub]
  obtain rfl : n = k := by omega
  refine ITri.seq ?_
  refine ITri.reg pok ?_; simp -implicitDefEqProofs (disch := first | decide | exact of_eq_true (eq_true rfl) | omega | assumption) only [ ↓vcD, vcE, ↓vcG, vcF, evs, evP, evB, intsOf, fillC, Value.cells, pt, Value.oneCell', reduceIte, reduceCtorEq, Nat.reduceEqDiff, Nat.reduceAdd, Nat.reduceMul, Nat.reduceLT, Nat.reduceBEq, Nat.reduceLeDiff, Nat.reduceSub]
  refine ITri.ret ?_; exact EndR.plain (by simp) (by rfl) (by rw [idxF_none (any_before hn hj)]; rfl) (by rfl)
theorem containsB_f (g : Nat) (p : Int → Bool) (bs : List Value) (hbs : noAddrL bs = true) (xs : List Int) (n : Nat) (HG : ∀ x, Fc Try.prog g [.int .i64 x, pt 1] (BM bs (rows eI xs)) (.bool (p x)) (BM bs (rows eI xs))) (hn : xs.length = n) (hb : n ≤ 1000000) {h : AH} {s : Value} {kb sz : Nat} {op : Bool} (h0 : h.sees 0 = true) (hg : h.get kb = some (.cells ⟨bs, sz, op⟩)) (r : Rd h s n (rows eI xs)) :
    Fc Try.prog 36 [s, fB g kb] h (.bool (xs.any p)) h := by
  refine liftB rfl (fun c => ?_) hbs (rows_no (f := eI) xs) h0 hg r
  refine Fc.intro0 fn36 (by simp) rfl rfl ?_; simp only [argF, List.cons_append, List.nil_append]
  refine ITri.seq ?_
  refine ITri.reg pok ?_; simp -implicitDefEqProofs (disch := first | decide | exact of_eq_true (eq_true rfl) | omega | assumption) only [ ↓vcD, vcE, ↓vcG, vcF, evs, evP, evB, intsOf, fillC, Value.cells, pt, Value.oneCell', reduceIte, reduceCtorEq, Nat.reduceEqDiff, Nat.reduceAdd, Nat.reduceMul, Nat.reduceLT, Nat.reduceBEq, Nat.reduceLeDiff, Nat.reduceSub]
  refine ITri.seq ?_
  refine ITri.reg pok ?_; simp -implicitDefEqProofs (disch := first | decide | exact of_eq_true (eq_true rfl) | omega | assumption) only [ ↓vcD, vcE, ↓vcG, vcF, evs, evP, evB, intsOf, fillC, Value.cells, pt, Value.oneCell', reduceIte, reduceCtorEq, Nat.reduceEqDiff, Nat.reduceAdd, Nat.reduceMul, Nat.reduceLT, Nat.reduceBEq, Nat.reduceLeDiff, Nat.reduceSub]
  refine ⟨_, _, indexB_f g p bs hbs xs n HG hn hb (sees0 rfl (of_decide_eq_true rfl)) (get_hq rfl rfl) (Rd.hq rfl rfl), ?_⟩
  try simp -implicitDefEqProofs (disch := first | decide | exact of_eq_true (eq_true rfl) | omega | assumption) only [ ↓vcD, vcE, ↓vcG, vcF, evs, evP, evB, intsOf, fillC, Value.cells, pt, Value.oneCell', reduceIte, reduceCtorEq, Nat.reduceEqDiff, Nat.reduceAdd, Nat.reduceMul, Nat.reduceLT, Nat.reduceBEq, Nat.reduceLeDiff, Nat.reduceSub]
  refine ITri.ret ?_; exact EndR.plain (by simp) (by rfl) (by rw [idxF_any]; rfl) (by rfl)


end Go.Proofs.Ytjfgbdmdnejhdaa
