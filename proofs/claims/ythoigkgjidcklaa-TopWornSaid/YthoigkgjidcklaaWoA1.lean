/-
  Chapter 11: the first number for which something is true; ranges of wear; the functions on lists, by names.
-/
import Derived.Test.YthoigkgjidcklaaWnKv
import Derived.Test.YthoigkgjidcklaaMj
set_option linter.unusedSimpArgs false
set_option linter.unusedVariables false
namespace Go.Proofs.Ythoigkgjidcklaa
open Go.RowKit Go.Vm
theorem pokT : POk Try.prog := pok
/-- The first number below another one for which something is true; -1 for none. -/
def ovI (p : Nat → Bool) : Nat → Int
  | 0 => -1
  | k + 1 => if ovI p k < 0 ∧ p k = true then (k : Int) else ovI p k
theorem ov_stay {p : Nat → Bool} {k : Nat} (h : 0 ≤ ovI p k) : ∀ d, ovI p (k + d) = ovI p k
  | 0 => rfl
  | d + 1 => by
    have ih := ov_stay h d
    rw [show k + (d + 1) = (k + d) + 1 by omega, ovI, ih, if_neg (by omega)]
theorem ov_hit {p : Nat → Bool} {k n : Nat} (h1 : ovI p k = -1) (h2 : p k = true) (h3 : k < n) : ovI p n = k := by
  have h4 : ovI p (k + 1) = k := by rw [ovI, if_pos ⟨by omega, h2⟩]
  have h5 := ov_stay (p := p) (k := k + 1) (by omega) (n - (k + 1))
  rw [show k + 1 + (n - (k + 1)) = n by omega, h4] at h5
  exact h5
theorem ov_miss {p : Nat → Bool} {k : Nat} (h1 : ovI p k = -1) (h2 : p k = false) : ovI p (k + 1) = -1 := by
  rw [ovI, if_neg (by rw [h2]; simp), h1]
theorem ov_rng (p : Nat → Bool) : ∀ n, -1 ≤ ovI p n ∧ ovI p n < n ∨ ovI p n = -1
  | 0 => .inr rfl
  | n + 1 => by
    rw [ovI]
    split
    · exact .inl ⟨by omega, by omega⟩
    · rcases ov_rng p n with h | h
      · exact .inl ⟨h.1, by omega⟩
      · exact .inr h
theorem ov_congr {p q : Nat → Bool} : ∀ n, (∀ k, k < n → p k = q k) → ovI p n = ovI q n
  | 0, _ => rfl
  | n + 1, h => by
    have ih := ov_congr n fun k hk => h k (by omega)
    rw [ovI, ovI, ih, h n (by omega)]
theorem ov_any {α : Type} [Inhabited α] {f : α → Bool} {xs : List α} : decide (0 ≤ ovI (fun k => f (nth xs k)) xs.length) = xs.any f := by
  have key : ∀ n, n ≤ xs.length → decide (0 ≤ ovI (fun k => f (nth xs k)) n) = (xs.take n).any f := by
    intro n
    induction n with
    | zero => intro _; rfl
    | succ n ih =>
      intro hn
      have ih := ih (by omega)
      rw [List.take_add_one, get_nth (by omega), List.any_append, ← ih, ovI]
      cases h : f (nth xs n) with
      | true =>
        by_cases h2 : ovI (fun k => f (nth xs k)) n < 0
        · simp [h, h2]
        · simp [h, h2, Int.not_lt.1 h2]
      | false => simp [h]
  have := key xs.length (Nat.le_refl _)
  rwa [List.take_length] at this
abbrev eN (n : Int) : List Value := [.int .i64 n]
instance flN : FlatE eN 1 := ⟨fun _ => rfl, fun _ => rfl, fun _ => rfl⟩
abbrev Rg := Int × Int
def eR (t : Rg) : List Value := [.int .i64 t.1, .int .i64 t.2]
instance flR : FlatE eR 2 := ⟨fun _ => rfl, fun _ => rfl, fun _ => rfl⟩
abbrev rV (t : Rg) : Value := .agg #[.int .i64 t.1, .int .i64 t.2]
def inT (n a b : Int) : Bool := decide (a ≤ n) && decide (n ≤ b)
theorem inT_ok {n a b : Int} (h : inT n a b = true) : a ≤ n ∧ n ≤ b := by
  unfold inT at h
  simp only [Bool.and_eq_true, decide_eq_true_eq] at h
  exact h
theorem inT_no {n a b : Int} (h : inT n a b = false) : n < a ∨ b < n := by
  unfold inT at h
  simp only [Bool.and_eq_false_iff, decide_eq_false_iff_not] at h
  omega
theorem getN {xs : List Int} {i : Nat} (hi : i < xs.length) : (rows eN xs)[i]? = some (.int .i64 (nth xs i)) := rows_get1 (f := eN) hi
theorem takeR {xs : List Rg} {i : Nat} (hi : i < xs.length) : takeC (rows eR xs) (i * 2) 2 = some (eR (nth xs i)) := rows_takeC (f := eR) hi
set_option maxRecDepth 100000
/- boule/shop.in · slots 15 · names 0:n 1:least 2:most 3:n 4:least 5:most · results [6] -/
def ir29_r0 : IC := .reg [⟨some 6, none, false, .mv (.k (.bool false))⟩] (some [0, 1, 2])
def ir29_r1 : IC := .reg [⟨some 7, none, false, .mv (.t 0)⟩,
  ⟨some 8, none, false, .mv (.t 1)⟩,
  ⟨some 9, none, false, .cmp .geq (.t 7) (.t 8)⟩,
  ⟨some 10, none, false, .mv (.t 9)⟩,
  ⟨some 11, some (10, true), false, .mv (.t 0)⟩,
  ⟨some 12, some (10, true), false, .mv (.t 2)⟩,
  ⟨some 13, some (10, true), false, .cmp .leq (.t 11) (.t 12)⟩,
  ⟨some 14, none, false, .pick (.t 10) (.t 13) (.k (.bool false))⟩,
  ⟨some 6, none, false, .mv (.t 14)⟩] (some [6])
def ir29_1 : IC := .seq ir29_r1 .ret
def ir29_2 : IC := .seq ir29_r0 ir29_1
def ir29 : IC := ir29_2
theorem fn29 : FnIs Try.prog 29 ir29 15 [.tmp 6] := ⟨Try.f29, Try.f29.body.getD .skip, Try.func29, by kernel_rfl, by kernel_rfl, by kernel_rfl, by kernel_rfl⟩
/- slices.IndexFunc[[]int,int] · slots 19 · names 0:s 1:f 2:s 3:f 5:i · results [4] -/
def ir59_r0 : IC := .reg [⟨some 4, none, false, .mv (.k (.int .i64 0))⟩] (some [0, 1])
def ir59_r1 : IC := .reg [⟨some 6, none, false, .mv (.t 0)⟩,
  ⟨some 7, none, false, .len (.t 6)⟩,
  ⟨some 8, none, false, .mv (.k (.int .i64 0))⟩] (some [0, 1, 7, 8])
def ir59_r2 : IC := .reg [⟨some 9, none, false, .cmp .lss (.t 8) (.t 7)⟩] (some [0, 1, 7, 8, 9])
def ir59_1 : IC := .cond (.t 9) .skip (.exit 0)
def ir59_r3 : IC := .reg [⟨some 10, none, false, .mv (.t 8)⟩,
  ⟨some 5, none, false, .mv (.t 10)⟩] (some [0, 1, 5, 7, 8])
def ir59_r4 : IC := .reg [⟨some 11, none, false, .mv (.t 1)⟩,
  ⟨some 12, none, false, .mv (.t 0)⟩,
  ⟨some 13, none, false, .mv (.t 5)⟩,
  ⟨some 14, none, false, .iad 1 (.t 12) (.t 13)⟩,
  ⟨some 15, none, false, .ldc (.t 14)⟩,
  ⟨some 16, none, false, .call (.t 11) [(.t 15)]⟩] (some [0, 1, 5, 7, 8, 16])
def ir59_r5 : IC := .reg [⟨some 17, none, false, .mv (.t 5)⟩,
  ⟨some 4, none, false, .mv (.t 17)⟩] (some [4])
def ir59_2 : IC := .seq ir59_r5 .ret
def ir59_3 : IC := .cond (.t 16) ir59_2 .skip
def ir59_4 : IC := .seq ir59_r4 ir59_3
def ir59_5 : IC := .seq ir59_r3 ir59_4
def ir59_6 : IC := .block 1 ir59_5
def ir59_r6 : IC := .reg [⟨some 18, none, false, .ar .add (.t 8) (.k (.int .i64 1))⟩,
  ⟨some 8, none, false, .mv (.t 18)⟩] (some [0, 1, 7, 8])
def ir59_7 : IC := .seq ir59_6 ir59_r6
def ir59_8 : IC := .seq ir59_1 ir59_7
def ir59_9 : IC := .seq ir59_r2 ir59_8
def ir59_10 : IC := .loop ir59_9
def ir59_11 : IC := .block 0 ir59_10
def ir59_12 : IC := .seq ir59_r1 ir59_11
def ir59_r7 : IC := .reg [⟨some 4, none, false, .mv (.k (.int .i64 (-1)))⟩] (some [4])
def ir59_13 : IC := .seq ir59_r7 .ret
def ir59_14 : IC := .seq ir59_12 ir59_13
def ir59_15 : IC := .seq ir59_r0 ir59_14
def ir59 : IC := ir59_15
theorem fn59 : FnIs Try.prog 59 ir59 19 [.tmp 4] := ⟨Try.f59, Try.f59.body.getD .skip, Try.func59, by kernel_rfl, by kernel_rfl, by kernel_rfl, by kernel_rfl⟩
/- slices.IndexFunc[[]boule/api.Range,boule/api.Range] · slots 19 · names 0:s 1:f 2:s 3:f 5:i · results [4] -/
def ir98_r0 : IC := .reg [⟨some 4, none, false, .mv (.k (.int .i64 0))⟩] (some [0, 1])
def ir98_r1 : IC := .reg [⟨some 6, none, false, .mv (.t 0)⟩,
  ⟨some 7, none, false, .len (.t 6)⟩,
  ⟨some 8, none, false, .mv (.k (.int .i64 0))⟩] (some [0, 1, 7, 8])
def ir98_r2 : IC := .reg [⟨some 9, none, false, .cmp .lss (.t 8) (.t 7)⟩] (some [0, 1, 7, 8, 9])
def ir98_1 : IC := .cond (.t 9) .skip (.exit 0)
def ir98_r3 : IC := .reg [⟨some 10, none, false, .mv (.t 8)⟩,
  ⟨some 5, none, false, .mv (.t 10)⟩] (some [0, 1, 5, 7, 8])
def ir98_r4 : IC := .reg [⟨some 11, none, false, .mv (.t 1)⟩,
  ⟨some 12, none, false, .mv (.t 0)⟩,
  ⟨some 13, none, false, .mv (.t 5)⟩,
  ⟨some 14, none, false, .iad 2 (.t 12) (.t 13)⟩,
  ⟨some 15, none, false, .lda 2 (.t 14)⟩,
  ⟨some 16, none, false, .call (.t 11) [(.t 15)]⟩] (some [0, 1, 5, 7, 8, 16])
def ir98_r5 : IC := .reg [⟨some 17, none, false, .mv (.t 5)⟩,
  ⟨some 4, none, false, .mv (.t 17)⟩] (some [4])
def ir98_2 : IC := .seq ir98_r5 .ret
def ir98_3 : IC := .cond (.t 16) ir98_2 .skip
def ir98_4 : IC := .seq ir98_r4 ir98_3
def ir98_5 : IC := .seq ir98_r3 ir98_4
def ir98_6 : IC := .block 1 ir98_5
def ir98_r6 : IC := .reg [⟨some 18, none, false, .ar .add (.t 8) (.k (.int .i64 1))⟩,
  ⟨some 8, none, false, .mv (.t 18)⟩] (some [0, 1, 7, 8])
def ir98_7 : IC := .seq ir98_6 ir98_r6
def ir98_8 : IC := .seq ir98_1 ir98_7
def ir98_9 : IC := .seq ir98_r2 ir98_8
def ir98_10 : IC := .loop ir98_9
def ir98_11 : IC := .block 0 ir98_10
def ir98_12 : IC := .seq ir98_r1 ir98_11
def ir98_r7 : IC := .reg [⟨some 4, none, false, .mv (.k (.int .i64 (-1)))⟩] (some [4])
def ir98_13 : IC := .seq ir98_r7 .ret
def ir98_14 : IC := .seq ir98_12 ir98_13
def ir98_15 : IC := .seq ir98_r0 ir98_14
def ir98 : IC := ir98_15
theorem fn98 : FnIs Try.prog 98 ir98 19 [.tmp 4] := ⟨Try.f98, Try.f98.body.getD .skip, Try.func98, by kernel_rfl, by kernel_rfl, by kernel_rfl, by kernel_rfl⟩
theorem in_f (n a b : Int) {h : AH} (hs : h.sees 0 = true) : Fc Try.prog 29 [.int .i64 n, .int .i64 a, .int .i64 b] h (.bool (inT n a b)) h := by
  refine Fc.lift0 ?_ rfl rfl hs
  refine Fc.intro0 fn29 (by simp) rfl rfl ?_; simp only [argF]
  refine ITri.seq ?_
  refine ITri.reg pokT ?_; simp -implicitDefEqProofs (disch := first | decide | exact of_eq_true (eq_true rfl) | omega | assumption) only [ ↓vcD, vcE, ↓vcG, vcF, evs, evP, evB, intsOf, fillC, Value.cells, pt, Value.oneCell', reduceIte, reduceCtorEq, Nat.reduceEqDiff, Nat.reduceAdd, Nat.reduceMul, Nat.reduceLT, Nat.reduceBEq, Nat.reduceLeDiff, Nat.reduceSub]
  refine ITri.seq ?_
  by_cases g : a ≤ n
  · refine ITri.reg pokT ?_; simp -implicitDefEqProofs (disch := first | decide | exact of_eq_true (eq_true rfl) | omega | assumption) only [g, decide_true,  ↓vcD, vcE, ↓vcG, vcF, evs, evP, evB, intsOf, fillC, Value.cells, pt, Value.oneCell', reduceIte, reduceCtorEq, Nat.reduceEqDiff, Nat.reduceAdd, Nat.reduceMul, Nat.reduceLT, Nat.reduceBEq, Nat.reduceLeDiff, Nat.reduceSub]
    refine ITri.ret ?_; exact EndR.plain (by simp) (by rfl) (by unfold inT; rw [decide_eq_true g]; rfl) (by rfl)
  · refine ITri.reg pokT ?_; simp -implicitDefEqProofs (disch := first | decide | exact of_eq_true (eq_true rfl) | omega | assumption) only [g, decide_false,  ↓vcD, vcE, ↓vcG, vcF, evs, evP, evB, intsOf, fillC, Value.cells, pt, Value.oneCell', reduceIte, reduceCtorEq, Nat.reduceEqDiff, Nat.reduceAdd, Nat.reduceMul, Nat.reduceLT, Nat.reduceBEq, Nat.reduceLeDiff, Nat.reduceSub]
    refine ITri.ret ?_; exact EndR.plain (by simp) (by rfl) (by unfold inT; rw [decide_eq_false g]; rfl) (by rfl)
def endI (p : Nat → Bool) (n : Nat) : Nat := if ovI p n < 0 then n else (ovI p n).toNat + 1
/-- IndexFunc on integers, whatever the function does to memory. -/
theorem indexI_x {wl ks c n sz g : Nat} {op : Bool} {xs : List Int} {caps : List Value} (H : Nat → List (Option AObj)) (p : Nat → Bool) (hx : xs.length = n) (hb : n ≤ 1000000) (hH : ∀ k, k ≤ n → ((H k)[ks]?).join = some (.cells ⟨rows eN xs, sz, op⟩)) (hl : ∀ k, k ≤ n → (H 0).length ≤ (H k).length ∧ (H k).take wl = (H 0).take wl)
    (F : ∀ k, k < n → Fc Try.prog g (.int .i64 (nth xs k) :: caps) (Hp wl (H k)) (.bool (p k)) (Hp wl (H (k + 1)))) :
    Fc Try.prog 59 [.slice (some ⟨ks, 0, none⟩) n c, .func (.func g) ⟨[]⟩ ⟨caps⟩] (Hp wl (H 0)) (.int .i64 (ovI p n)) (Hp wl (H (endI p n))) := by
  have hen : endI p n ≤ n := by
    unfold endI
    split
    · exact Nat.le_refl _
    · have := ov_rng p n
      omega
  refine Fc.introX fn59 (by simp) (fun _ => grow_hq (hl _ hen).1 (hl _ hen).2) ?_
  simp only [argF]
  refine ITri.seq ?_
  refine ITri.reg pokT ?_; simp -implicitDefEqProofs (disch := first | decide | exact of_eq_true (eq_true rfl) | omega | assumption) only [ ↓vcD, vcE, ↓vcG, vcF, evs, evP, evB, intsOf, fillC, Value.cells, pt, Value.oneCell', reduceIte, reduceCtorEq, Nat.reduceEqDiff, Nat.reduceAdd, Nat.reduceMul, Nat.reduceLT, Nat.reduceBEq, Nat.reduceLeDiff, Nat.reduceSub] -- r0
  refine ITri.seq ?_
  refine ITri.seq ?_
  refine ITri.reg pokT ?_; simp -implicitDefEqProofs (disch := first | decide | exact of_eq_true (eq_true rfl) | omega | assumption) only [ ↓vcD, vcE, ↓vcG, vcF, evs, evP, evB, intsOf, fillC, Value.cells, pt, Value.oneCell', reduceIte, reduceCtorEq, Nat.reduceEqDiff, Nat.reduceAdd, Nat.reduceMul, Nat.reduceLT, Nat.reduceBEq, Nat.reduceLeDiff, Nat.reduceSub] -- r1
  refine ITri.block ?_
  refine ITri.loop (fun k : Nat => [(0, .slice (some ⟨ks, 0, none⟩) n c), (1, .func (.func g) ⟨[]⟩ ⟨caps⟩), (7, .int .i64 n), (8, .int .i64 k)]) (fun _ => []) (fun k => Hp wl (H k)) (fun k => k ≤ n ∧ ovI p k = -1) (fun k => n - k) 0 ⟨Nat.zero_le _, rfl⟩ (Wk.sub ⟨rfl, rfl, rfl, rfl, trivial⟩) fun k hk => ?_
  obtain ⟨hk, ho⟩ := hk
  have hHk := hH k hk
  refine ITri.seq ?_
  refine ITri.reg pokT ?_; simp -implicitDefEqProofs (disch := first | decide | exact of_eq_true (eq_true rfl) | omega | assumption) only [ ↓vcD, vcE, ↓vcG, vcF, evs, evP, evB, intsOf, fillC, Value.cells, pt, Value.oneCell', reduceIte, reduceCtorEq, Nat.reduceEqDiff, Nat.reduceAdd, Nat.reduceMul, Nat.reduceLT, Nat.reduceBEq, Nat.reduceLeDiff, Nat.reduceSub]
  refine ITri.seq ?_
  refine ITri.condD (by rfl) (fun h1 => ?_) (fun h1 => ?_)
  · have h2 : k < n := by omega
    have hg : (rows eN xs)[k]? = some (.int .i64 (nth xs k)) := getN (by omega)
    refine ITri.skip ?_; simp only [SeqQ_normal, BlkQ_normal]
    refine ITri.seq ?_
    refine ITri.block ?_
    refine ITri.seq ?_
    refine ITri.reg pokT ?_; simp -implicitDefEqProofs (disch := first | decide | exact of_eq_true (eq_true rfl) | omega | assumption) only [ ↓vcD, vcE, ↓vcG, vcF, evs, evP, evB, intsOf, fillC, Value.cells, pt, Value.oneCell', reduceIte, reduceCtorEq, Nat.reduceEqDiff, Nat.reduceAdd, Nat.reduceMul, Nat.reduceLT, Nat.reduceBEq, Nat.reduceLeDiff, Nat.reduceSub]
    refine ITri.seq ?_
    refine ITri.reg pokT ?_; simp -implicitDefEqProofs (disch := first | decide | exact of_eq_true (eq_true rfl) | omega | assumption) only [hHk, hg,  ↓vcD, vcE, ↓vcG, vcF, evs, evP, evB, intsOf, fillC, Value.cells, pt, Value.oneCell', reduceIte, reduceCtorEq, Nat.reduceEqDiff, Nat.reduceAdd, Nat.reduceMul, Nat.reduceLT, Nat.reduceBEq, Nat.reduceLeDiff, Nat.reduceSub]
    refine ⟨_, _, F k h2, ?_⟩
    try simp -implicitDefEqProofs (disch := first | decide | exact of_eq_true (eq_true rfl) | omega | assumption) only [ ↓vcD, vcE, ↓vcG, vcF, evs, evP, evB, intsOf, fillC, Value.cells, pt, Value.oneCell', reduceIte, reduceCtorEq, Nat.reduceEqDiff, Nat.reduceAdd, Nat.reduceMul, Nat.reduceLT, Nat.reduceBEq, Nat.reduceLeDiff, Nat.reduceSub]
    refine ITri.cond (by rfl) (fun h3 => ?_) (fun h3 => ?_)
    · have h4 := ov_hit ho h3 h2
      have h5 : endI p n = k + 1 := by unfold endI; rw [h4, if_neg (by omega)]; omega
      rw [h4, h5]
      refine ITri.seq ?_
      refine ITri.reg pokT ?_; simp -implicitDefEqProofs (disch := first | decide | exact of_eq_true (eq_true rfl) | omega | assumption) only [ ↓vcD, vcE, ↓vcG, vcF, evs, evP, evB, intsOf, fillC, Value.cells, pt, Value.oneCell', reduceIte, reduceCtorEq, Nat.reduceEqDiff, Nat.reduceAdd, Nat.reduceMul, Nat.reduceLT, Nat.reduceBEq, Nat.reduceLeDiff, Nat.reduceSub]
      refine ITri.ret ?_; exact EndX.mk (by simp) (by rfl) (by rfl) (by rfl)
    refine ITri.skip ?_; simp only [SeqQ_normal, BlkQ_normal]
    refine ITri.reg pokT ?_; simp -implicitDefEqProofs (disch := first | decide | exact of_eq_true (eq_true rfl) | omega | assumption) only [ ↓vcD, vcE, ↓vcG, vcF, evs, evP, evB, intsOf, fillC, Value.cells, pt, Value.oneCell', reduceIte, reduceCtorEq, Nat.reduceEqDiff, Nat.reduceAdd, Nat.reduceMul, Nat.reduceLT, Nat.reduceBEq, Nat.reduceLeDiff, Nat.reduceSub]
    exact LoopQ.next (k + 1) ⟨by omega, ov_miss ho h3⟩ (by omega) (Wk.sub ⟨rfl, rfl, rfl, rfl, trivial⟩)
  refine ITri.exit ?_; try simp -implicitDefEqProofs (disch := first | decide | exact of_eq_true (eq_true rfl) | omega | assumption) only [ ↓vcD, vcE, ↓vcG, vcF, evs, evP, evB, intsOf, fillC, Value.cells, pt, Value.oneCell', reduceIte, reduceCtorEq, Nat.reduceEqDiff, Nat.reduceAdd, Nat.reduceMul, Nat.reduceLT, Nat.reduceBEq, Nat.reduceLeDiff, Nat.reduceSub]
  obtain rfl : n = k := by omega
  have h5 : endI p n = n := by unfold endI; rw [ho, if_pos (by omega)]
  rw [ho, h5]
  refine ITri.seq ?_
  refine ITri.reg pokT ?_; simp -implicitDefEqProofs (disch := first | decide | exact of_eq_true (eq_true rfl) | omega | assumption) only [ ↓vcD, vcE, ↓vcG, vcF, evs, evP, evB, intsOf, fillC, Value.cells, pt, Value.oneCell', reduceIte, reduceCtorEq, Nat.reduceEqDiff, Nat.reduceAdd, Nat.reduceMul, Nat.reduceLT, Nat.reduceBEq, Nat.reduceLeDiff, Nat.reduceSub]
  refine ITri.ret ?_; exact EndX.mk (by simp) (by rfl) (by rfl) (by rfl)
/-- IndexFunc on ranges, a function that leaves memory as it is. -/
theorem indexR_x {wl ks c n sz g : Nat} {op : Bool} {xs : List Rg} {caps : List Value} (L : List (Option AObj)) (p : Nat → Bool) (hx : xs.length = n) (hb : n ≤ 1000000) (hH : (L[ks]?).join = some (.cells ⟨rows eR xs, sz, op⟩))
    (F : ∀ k, k < n → Fc Try.prog g (rV (nth xs k) :: caps) (Hp wl L) (.bool (p k)) (Hp wl L)) :
    Fc Try.prog 98 [.slice (some ⟨ks, 0, none⟩) n c, .func (.func g) ⟨[]⟩ ⟨caps⟩] (Hp wl L) (.int .i64 (ovI p n)) (Hp wl L) := by
  refine Fc.introX fn98 (by simp) (fun _ => Grow.refl _) ?_
  simp only [argF]
  refine ITri.seq ?_
  refine ITri.reg pokT ?_; simp -implicitDefEqProofs (disch := first | decide | exact of_eq_true (eq_true rfl) | omega | assumption) only [ ↓vcD, vcE, ↓vcG, vcF, evs, evP, evB, intsOf, fillC, Value.cells, pt, Value.oneCell', reduceIte, reduceCtorEq, Nat.reduceEqDiff, Nat.reduceAdd, Nat.reduceMul, Nat.reduceLT, Nat.reduceBEq, Nat.reduceLeDiff, Nat.reduceSub] -- r0
  refine ITri.seq ?_
  refine ITri.seq ?_
  refine ITri.reg pokT ?_; simp -implicitDefEqProofs (disch := first | decide | exact of_eq_true (eq_true rfl) | omega | assumption) only [ ↓vcD, vcE, ↓vcG, vcF, evs, evP, evB, intsOf, fillC, Value.cells, pt, Value.oneCell', reduceIte, reduceCtorEq, Nat.reduceEqDiff, Nat.reduceAdd, Nat.reduceMul, Nat.reduceLT, Nat.reduceBEq, Nat.reduceLeDiff, Nat.reduceSub] -- r1
  refine ITri.block ?_
  refine ITri.loop (fun k : Nat => [(0, .slice (some ⟨ks, 0, none⟩) n c), (1, .func (.func g) ⟨[]⟩ ⟨caps⟩), (7, .int .i64 n), (8, .int .i64 k)]) (fun _ => []) (fun k => Hp wl L) (fun k => k ≤ n ∧ ovI p k = -1) (fun k => n - k) 0 ⟨Nat.zero_le _, rfl⟩ (Wk.sub ⟨rfl, rfl, rfl, rfl, trivial⟩) fun k hk => ?_
  obtain ⟨hk, ho⟩ := hk
  refine ITri.seq ?_
  refine ITri.reg pokT ?_; simp -implicitDefEqProofs (disch := first | decide | exact of_eq_true (eq_true rfl) | omega | assumption) only [ ↓vcD, vcE, ↓vcG, vcF, evs, evP, evB, intsOf, fillC, Value.cells, pt, Value.oneCell', reduceIte, reduceCtorEq, Nat.reduceEqDiff, Nat.reduceAdd, Nat.reduceMul, Nat.reduceLT, Nat.reduceBEq, Nat.reduceLeDiff, Nat.reduceSub]
  refine ITri.seq ?_
  refine ITri.condD (by rfl) (fun h1 => ?_) (fun h1 => ?_)
  · have h2 : k < n := by omega
    have hg : takeC (rows eR xs) (k * 2) 2 = some (eR (nth xs k)) := takeR (by omega)
    refine ITri.skip ?_; simp only [SeqQ_normal, BlkQ_normal]
    refine ITri.seq ?_
    refine ITri.block ?_
    refine ITri.seq ?_
    refine ITri.reg pokT ?_; simp -implicitDefEqProofs (disch := first | decide | exact of_eq_true (eq_true rfl) | omega | assumption) only [ ↓vcD, vcE, ↓vcG, vcF, evs, evP, evB, intsOf, fillC, Value.cells, pt, Value.oneCell', reduceIte, reduceCtorEq, Nat.reduceEqDiff, Nat.reduceAdd, Nat.reduceMul, Nat.reduceLT, Nat.reduceBEq, Nat.reduceLeDiff, Nat.reduceSub]
    refine ITri.seq ?_
    refine ITri.reg pokT ?_; simp -implicitDefEqProofs (disch := first | decide | exact of_eq_true (eq_true rfl) | omega | assumption) only [hH, hg,  ↓vcD, vcE, ↓vcG, vcF, evs, evP, evB, intsOf, fillC, Value.cells, pt, Value.oneCell', reduceIte, reduceCtorEq, Nat.reduceEqDiff, Nat.reduceAdd, Nat.reduceMul, Nat.reduceLT, Nat.reduceBEq, Nat.reduceLeDiff, Nat.reduceSub]
    refine ⟨_, _, F k h2, ?_⟩
    try simp -implicitDefEqProofs (disch := first | decide | exact of_eq_true (eq_true rfl) | omega | assumption) only [ ↓vcD, vcE, ↓vcG, vcF, evs, evP, evB, intsOf, fillC, Value.cells, pt, Value.oneCell', reduceIte, reduceCtorEq, Nat.reduceEqDiff, Nat.reduceAdd, Nat.reduceMul, Nat.reduceLT, Nat.reduceBEq, Nat.reduceLeDiff, Nat.reduceSub]
    refine ITri.cond (by rfl) (fun h3 => ?_) (fun h3 => ?_)
    · have h4 := ov_hit ho h3 h2
      rw [h4]
      refine ITri.seq ?_
      refine ITri.reg pokT ?_; simp -implicitDefEqProofs (disch := first | decide | exact of_eq_true (eq_true rfl) | omega | assumption) only [ ↓vcD, vcE, ↓vcG, vcF, evs, evP, evB, intsOf, fillC, Value.cells, pt, Value.oneCell', reduceIte, reduceCtorEq, Nat.reduceEqDiff, Nat.reduceAdd, Nat.reduceMul, Nat.reduceLT, Nat.reduceBEq, Nat.reduceLeDiff, Nat.reduceSub]
      refine ITri.ret ?_; exact EndX.mk (by simp) (by rfl) (by rfl) (by rfl)
    refine ITri.skip ?_; simp only [SeqQ_normal, BlkQ_normal]
    refine ITri.reg pokT ?_; simp -implicitDefEqProofs (disch := first | decide | exact of_eq_true (eq_true rfl) | omega | assumption) only [ ↓vcD, vcE, ↓vcG, vcF, evs, evP, evB, intsOf, fillC, Value.cells, pt, Value.oneCell', reduceIte, reduceCtorEq, Nat.reduceEqDiff, Nat.reduceAdd, Nat.reduceMul, Nat.reduceLT, Nat.reduceBEq, Nat.reduceLeDiff, Nat.reduceSub]
    exact LoopQ.next (k + 1) ⟨by omega, ov_miss ho h3⟩ (by omega) (Wk.sub ⟨rfl, rfl, rfl, rfl, trivial⟩)
  refine ITri.exit ?_; try simp -implicitDefEqProofs (disch := first | decide | exact of_eq_true (eq_true rfl) | omega | assumption) only [ ↓vcD, vcE, ↓vcG, vcF, evs, evP, evB, intsOf, fillC, Value.cells, pt, Value.oneCell', reduceIte, reduceCtorEq, Nat.reduceEqDiff, Nat.reduceAdd, Nat.reduceMul, Nat.reduceLT, Nat.reduceBEq, Nat.reduceLeDiff, Nat.reduceSub]
  obtain rfl : n = k := by omega
  rw [ho]
  refine ITri.seq ?_
  refine ITri.reg pokT ?_; simp -implicitDefEqProofs (disch := first | decide | exact of_eq_true (eq_true rfl) | omega | assumption) only [ ↓vcD, vcE, ↓vcG, vcF, evs, evP, evB, intsOf, fillC, Value.cells, pt, Value.oneCell', reduceIte, reduceCtorEq, Nat.reduceEqDiff, Nat.reduceAdd, Nat.reduceMul, Nat.reduceLT, Nat.reduceBEq, Nat.reduceLeDiff, Nat.reduceSub]
  refine ITri.ret ?_; exact EndX.mk (by simp) (by rfl) (by rfl) (by rfl)
end Go.Proofs.Ythoigkgjidcklaa
