/-
  Chapter 11, by names: Aged, and what the reference says of it.
-/
import Derived.Test.YthoigkgjidcklaaWoA2
set_option linter.unusedSimpArgs false
set_option linter.unusedVariables false
namespace Go.Proofs.Ythoigkgjidcklaa
open Go.RowKit Go.Vm
set_option maxRecDepth 100000
/- boule/shop.Aged · slots 36 · names 0:life 1:wear 2:runs 3:life 4:wear 5:runs 6:maybe 7:surely 8:e 9:first · results [6, 7, 8] -/
def ir19_r0 : IC := .reg [⟨some 3, none, false, .box (.t 0)⟩,
  ⟨some 4, none, false, .box (.t 1)⟩,
  ⟨some 5, none, false, .box (.t 2)⟩,
  ⟨some 6, none, false, .mv (.k (.int .i64 0))⟩,
  ⟨some 7, none, false, .mv (.k (.int .i64 0))⟩,
  ⟨some 8, none, false, .mv (.k (.int .i64 0))⟩] (some [3, 4, 5])
def ir19_r1 : IC := .reg [⟨some 11, none, false, .ldc (.t 5)⟩,
  ⟨some 12, none, false, .len (.t 11)⟩,
  ⟨some 13, none, false, .cmp .gtr (.t 12) (.k (.int .i64 500))⟩,
  ⟨some 14, none, false, .mv (.t 13)⟩,
  ⟨some 15, some (14, false), false, .ldc (.t 4)⟩,
  ⟨some 16, some (14, false), false, .len (.t 15)⟩,
  ⟨some 17, some (14, false), false, .cmp .gtr (.t 16) (.k (.int .i64 8))⟩,
  ⟨some 18, none, false, .pick (.t 14) (.k (.bool true)) (.t 17)⟩,
  ⟨some 10, none, false, .mv (.t 18)⟩] (some [3, 4, 5, 10])
def ir19_r2 : IC := .reg [⟨some 6, none, false, .mv (.k (.int .i64 0))⟩,
  ⟨some 7, none, false, .mv (.k (.int .i64 0))⟩,
  ⟨some 8, none, false, .mv (.k (.int .i64 5))⟩] (some [6, 7, 8])
def ir19_1 : IC := .seq ir19_r2 .ret
def ir19_r3 : IC := .reg [⟨some 20, none, false, .ldc (.t 3)⟩,
  ⟨some 21, none, false, .call (.f 29) [(.t 20), (.k (.int .i64 0)), (.k (.int .i64 1000000))]⟩,
  ⟨some 22, none, false, .not (.t 21)⟩,
  ⟨some 23, none, false, .mv (.t 22)⟩,
  ⟨some 24, some (23, false), false, .ldc (.t 4)⟩,
  ⟨some 25, some (23, false), false, .call (.f 54) [(.t 24), (.f 55)]⟩,
  ⟨some 26, none, false, .pick (.t 23) (.k (.bool true)) (.t 25)⟩,
  ⟨some 19, none, false, .mv (.t 26)⟩] (some [3, 4, 5, 19])
def ir19_r4 : IC := .reg [⟨some 6, none, false, .mv (.k (.int .i64 0))⟩,
  ⟨some 7, none, false, .mv (.k (.int .i64 0))⟩,
  ⟨some 8, none, false, .mv (.k (.int .i64 2))⟩] (some [6, 7, 8])
def ir19_2 : IC := .seq ir19_r4 .ret
def ir19_r5 : IC := .reg [⟨some 28, none, false, .ldc (.t 5)⟩,
  ⟨some 29, none, false, .mkf 57 [] [(.t 4)]⟩,
  ⟨some 30, none, false, .call (.f 56) [(.t 28), (.t 29)]⟩,
  ⟨some 27, none, false, .mv (.t 30)⟩] (some [3, 4, 5, 27])
def ir19_r6 : IC := .reg [⟨some 6, none, false, .mv (.k (.int .i64 0))⟩,
  ⟨some 7, none, false, .mv (.k (.int .i64 0))⟩,
  ⟨some 8, none, false, .mv (.k (.int .i64 7))⟩] (some [6, 7, 8])
def ir19_3 : IC := .seq ir19_r6 .ret
def ir19_4 : IC := .cond (.t 27) ir19_3 .skip
def ir19_5 : IC := .seq ir19_r5 ir19_4
def ir19_6 : IC := .cond (.t 19) ir19_2 ir19_5
def ir19_7 : IC := .seq ir19_r3 ir19_6
def ir19_8 : IC := .cond (.t 10) ir19_1 ir19_7
def ir19_9 : IC := .seq ir19_r1 ir19_8
def ir19_10 : IC := .block 0 ir19_9
def ir19_r7 : IC := .reg [⟨some 31, none, false, .mkf 58 [] [(.t 3), (.t 5), (.t 4)]⟩,
  ⟨some 9, none, false, .mv (.t 31)⟩] (some [9])
def ir19_r8 : IC := .reg [⟨some 32, none, false, .mv (.t 9)⟩,
  ⟨some 33, none, false, .call (.t 32) [(.f 61)]⟩,
  ⟨some 34, none, false, .mv (.t 9)⟩,
  ⟨some 35, none, false, .call (.t 34) [(.f 62)]⟩,
  ⟨some 6, none, false, .mv (.t 33)⟩,
  ⟨some 7, none, false, .mv (.t 35)⟩,
  ⟨some 8, none, false, .mv (.k (.int .i64 0))⟩] (some [6, 7, 8])
def ir19_11 : IC := .seq ir19_r8 .ret
def ir19_12 : IC := .seq ir19_r7 ir19_11
def ir19_13 : IC := .seq ir19_10 ir19_12
def ir19_14 : IC := .seq ir19_r0 ir19_13
def ir19 : IC := ir19_14
theorem fn19 : FnIs Try.prog 19 ir19 36 [.tmp 6, .tmp 7, .tmp 8] := ⟨Try.f19, Try.f19.body.getD .skip, Try.func19, by kernel_rfl, by kernel_rfl, by kernel_rfl, by kernel_rfl⟩
/-- What Aged returns. -/
def agP (g : Rg → Int) (life : Int) (wear : List Rg) (runs : List Int) : Int := ovI (fun k => decide (life - sW g wear runs (k + 1) < 0)) runs.length
def agE (life : Int) (wear : List Rg) (runs : List Int) : Int :=
  if 500 < runs.length ∨ 8 < wear.length then 5 else if inT life 0 1000000 = false ∨ wear.any badR = true then 2 else if (runs.any fun k => !inT k 0 (wear.length - 1)) = true then 7 else 0
def agF (life : Int) (wear : List Rg) (runs : List Int) : Int × Int × Int :=
  if agE life wear runs = 0 then (agP (·.2) life wear runs, agP (·.1) life wear runs, 0) else (0, 0, agE life wear runs)
theorem ag_ok {life : Int} {wear : List Rg} {runs : List Int} (h : agE life wear runs = 0) : runs.length ≤ 500 ∧ wear.length ≤ 8 ∧ (0 ≤ life ∧ life ≤ 1000000) ∧ (∀ r ∈ wear, 0 ≤ r.1 ∧ r.1 ≤ r.2 ∧ r.2 ≤ 1000000) ∧ ∀ k ∈ runs, 0 ≤ k ∧ k < wear.length := by
  unfold agE at h
  split at h
  · cases h
  · rename_i h1
    split at h
    · cases h
    · rename_i h2
      split at h
      · cases h
      · rename_i h3
        have q1 : inT life 0 1000000 = true := by
          cases hc : inT life 0 1000000 with
          | true => rfl
          | false => exact absurd (.inl hc) h2
        have q2 : wear.any badR = false := by
          cases hc : wear.any badR with
          | false => rfl
          | true => exact absurd (.inr hc) h2
        have q3 : (runs.any fun k => !inT k 0 (wear.length - 1)) = false := by simpa using h3
        refine ⟨by omega, by omega, inT_ok q1, fun r hr => badR_no (by simpa using List.any_eq_false.1 q2 r hr), fun k hk => ?_⟩
        have := List.any_eq_false.1 q3 k hk
        have := inT_ok (n := k) (a := 0) (b := (wear.length : Int) - 1) (by simpa using this)
        omega
abbrev v3 (q : Int × Int × Int) : Value := .tuple #[.int .i64 q.1, .int .i64 q.2.1, .int .i64 q.2.2]
theorem aged_c (nw cw nr cr : Nat) (life : Int) (wear : List Rg) (runs : List Int) (hw : wear.length = nw) (hr : runs.length = nr) (hb : nw ≤ 1000000) (hb2 : nr ≤ 1000000) :
    Fc Try.prog 19 [.int .i64 life, .slice (some ⟨1, 0, none⟩) nw cw, .slice (some ⟨2, 0, none⟩) nr cr] (Hp 3 [none, some (.cells ⟨rows eR wear, 0, false⟩), some (.cells ⟨rows eN runs, 0, false⟩)]) (v3 (agF life wear runs)) (Hp 3 [none, some (.cells ⟨rows eR wear, 0, false⟩), some (.cells ⟨rows eN runs, 0, false⟩)]) := by
  refine Fc.intro0 fn19 (by simp) rfl rfl ?_; simp only [argF]
  have hF : ∀ e, e ≠ 0 → agE life wear runs = e → agF life wear runs = (0, 0, e) := fun e h0 h => by
    unfold agF
    rw [if_neg (by rw [h]; exact h0), h]
  refine ITri.seq ?_
  refine ITri.reg pokT ?_; simp -implicitDefEqProofs (disch := first | decide | exact of_eq_true (eq_true rfl) | omega | assumption) only [ ↓vcD, vcE, ↓vcG, vcF, evs, evP, evB, intsOf, fillC, Value.cells, pt, Value.oneCell', reduceIte, reduceCtorEq, Nat.reduceEqDiff, Nat.reduceAdd, Nat.reduceMul, Nat.reduceLT, Nat.reduceBEq, Nat.reduceLeDiff, Nat.reduceSub] -- r0
  refine ITri.seq ?_
  refine ITri.block ?_ -- 0
  refine ITri.seq ?_
  by_cases g1 : (500 : Int) < nr
  · have e0 := hF 5 (by decide) (by unfold agE; rw [if_pos (.inl (by omega))])
    rw [e0]
    refine ITri.reg pokT ?_; simp -implicitDefEqProofs (disch := first | decide | exact of_eq_true (eq_true rfl) | omega | assumption) only [g1, decide_true,  ↓vcD, vcE, ↓vcG, vcF, evs, evP, evB, intsOf, fillC, Value.cells, pt, Value.oneCell', reduceIte, reduceCtorEq, Nat.reduceEqDiff, Nat.reduceAdd, Nat.reduceMul, Nat.reduceLT, Nat.reduceBEq, Nat.reduceLeDiff, Nat.reduceSub]
    refine ITri.cond (v := true) rfl (fun _ => ?_) (fun h => by cases h)
    refine ITri.seq ?_
    refine ITri.reg pokT ?_; simp -implicitDefEqProofs (disch := first | decide | exact of_eq_true (eq_true rfl) | omega | assumption) only [ ↓vcD, vcE, ↓vcG, vcF, evs, evP, evB, intsOf, fillC, Value.cells, pt, Value.oneCell', reduceIte, reduceCtorEq, Nat.reduceEqDiff, Nat.reduceAdd, Nat.reduceMul, Nat.reduceLT, Nat.reduceBEq, Nat.reduceLeDiff, Nat.reduceSub]
    refine ITri.ret ?_; exact EndR.plain (vs := [.int .i64 0, .int .i64 0, .int .i64 5]) (by simp) (by rfl) (by rfl) (by rfl)
  by_cases g2 : (8 : Int) < nw
  · have e0 := hF 5 (by decide) (by unfold agE; rw [if_pos (.inr (by omega))])
    rw [e0]
    refine ITri.reg pokT ?_; simp -implicitDefEqProofs (disch := first | decide | exact of_eq_true (eq_true rfl) | omega | assumption) only [g1, g2, decide_true, decide_false,  ↓vcD, vcE, ↓vcG, vcF, evs, evP, evB, intsOf, fillC, Value.cells, pt, Value.oneCell', reduceIte, reduceCtorEq, Nat.reduceEqDiff, Nat.reduceAdd, Nat.reduceMul, Nat.reduceLT, Nat.reduceBEq, Nat.reduceLeDiff, Nat.reduceSub]
    refine ITri.cond (v := true) rfl (fun _ => ?_) (fun h => by cases h)
    refine ITri.seq ?_
    refine ITri.reg pokT ?_; simp -implicitDefEqProofs (disch := first | decide | exact of_eq_true (eq_true rfl) | omega | assumption) only [ ↓vcD, vcE, ↓vcG, vcF, evs, evP, evB, intsOf, fillC, Value.cells, pt, Value.oneCell', reduceIte, reduceCtorEq, Nat.reduceEqDiff, Nat.reduceAdd, Nat.reduceMul, Nat.reduceLT, Nat.reduceBEq, Nat.reduceLeDiff, Nat.reduceSub]
    refine ITri.ret ?_; exact EndR.plain (vs := [.int .i64 0, .int .i64 0, .int .i64 5]) (by simp) (by rfl) (by rfl) (by rfl)
  have f1 : agE life wear runs = _ := if_neg (show ¬ (500 < runs.length ∨ 8 < wear.length) by omega)
  refine ITri.reg pokT ?_; simp -implicitDefEqProofs (disch := first | decide | exact of_eq_true (eq_true rfl) | omega | assumption) only [g1, g2, decide_true, decide_false,  ↓vcD, vcE, ↓vcG, vcF, evs, evP, evB, intsOf, fillC, Value.cells, pt, Value.oneCell', reduceIte, reduceCtorEq, Nat.reduceEqDiff, Nat.reduceAdd, Nat.reduceMul, Nat.reduceLT, Nat.reduceBEq, Nat.reduceLeDiff, Nat.reduceSub]
  refine ITri.cond (v := false) rfl (fun h => by cases h) (fun _ => ?_)
  refine ITri.seq ?_
  refine ITri.reg pokT ?_; simp -implicitDefEqProofs (disch := first | decide | exact of_eq_true (eq_true rfl) | omega | assumption) only [ ↓vcD, vcE, ↓vcG, vcF, evs, evP, evB, intsOf, fillC, Value.cells, pt, Value.oneCell', reduceIte, reduceCtorEq, Nat.reduceEqDiff, Nat.reduceAdd, Nat.reduceMul, Nat.reduceLT, Nat.reduceBEq, Nat.reduceLeDiff, Nat.reduceSub]
  refine ⟨_, _, in_f _ _ _ (sees0 rfl (of_decide_eq_true rfl)), ?_⟩
  cases g3 : inT life 0 1000000 with
  | false =>
    have e0 := hF 2 (by decide) (by rw [f1, if_pos (.inl g3)])
    rw [e0]
    simp -implicitDefEqProofs (disch := first | decide | exact of_eq_true (eq_true rfl) | omega | assumption) only [g3,  ↓vcD, vcE, ↓vcG, vcF, evs, evP, evB, intsOf, fillC, Value.cells, pt, Value.oneCell', reduceIte, reduceCtorEq, Nat.reduceEqDiff, Nat.reduceAdd, Nat.reduceMul, Nat.reduceLT, Nat.reduceBEq, Nat.reduceLeDiff, Nat.reduceSub]
    refine ITri.cond (v := true) rfl (fun _ => ?_) (fun h => by cases h)
    refine ITri.seq ?_
    refine ITri.reg pokT ?_; simp -implicitDefEqProofs (disch := first | decide | exact of_eq_true (eq_true rfl) | omega | assumption) only [ ↓vcD, vcE, ↓vcG, vcF, evs, evP, evB, intsOf, fillC, Value.cells, pt, Value.oneCell', reduceIte, reduceCtorEq, Nat.reduceEqDiff, Nat.reduceAdd, Nat.reduceMul, Nat.reduceLT, Nat.reduceBEq, Nat.reduceLeDiff, Nat.reduceSub]
    refine ITri.ret ?_; exact EndR.plain (vs := [.int .i64 0, .int .i64 0, .int .i64 2]) (by simp) (by rfl) (by rfl) (by rfl)
  | true =>
  simp -implicitDefEqProofs (disch := first | decide | exact of_eq_true (eq_true rfl) | omega | assumption) only [g3,  ↓vcD, vcE, ↓vcG, vcF, evs, evP, evB, intsOf, fillC, Value.cells, pt, Value.oneCell', reduceIte, reduceCtorEq, Nat.reduceEqDiff, Nat.reduceAdd, Nat.reduceMul, Nat.reduceLT, Nat.reduceBEq, Nat.reduceLeDiff, Nat.reduceSub]
  refine ⟨_, _, containsR_x (wl := 3) (ks := 1) (c := cw) (sz := 0) (op := false) (ag6 nw cw nr cr life wear runs) hw hb (by simp) rfl, ?_⟩
  cases g4 : wear.any badR with
  | true =>
    have e0 := hF 2 (by decide) (by rw [f1, if_pos (.inr g4)])
    rw [e0]
    refine ITri.cond (v := true) rfl (fun _ => ?_) (fun h => by cases h)
    refine ITri.seq ?_
    refine ITri.reg pokT ?_; simp -implicitDefEqProofs (disch := first | decide | exact of_eq_true (eq_true rfl) | omega | assumption) only [ ↓vcD, vcE, ↓vcG, vcF, evs, evP, evB, intsOf, fillC, Value.cells, pt, Value.oneCell', reduceIte, reduceCtorEq, Nat.reduceEqDiff, Nat.reduceAdd, Nat.reduceMul, Nat.reduceLT, Nat.reduceBEq, Nat.reduceLeDiff, Nat.reduceSub]
    refine ITri.ret ?_; exact EndR.plain (vs := [.int .i64 0, .int .i64 0, .int .i64 2]) (by simp) (by rfl) (by rfl) (by rfl)
  | false =>
  rw [if_neg (by rw [g3, g4]; simp)] at f1
  refine ITri.cond (v := false) rfl (fun h => by cases h) (fun _ => ?_)
  refine ITri.seq ?_
  refine ITri.reg pokT ?_; simp -implicitDefEqProofs (disch := first | decide | exact of_eq_true (eq_true rfl) | omega | assumption) only [ ↓vcD, vcE, ↓vcG, vcF, evs, evP, evB, intsOf, fillC, Value.cells, pt, Value.oneCell', reduceIte, reduceCtorEq, Nat.reduceEqDiff, Nat.reduceAdd, Nat.reduceMul, Nat.reduceLT, Nat.reduceBEq, Nat.reduceLeDiff, Nat.reduceSub]
  refine ⟨_, _, containsI_x nw cw nr cr life wear runs hr hb hb2, ?_⟩
  have ew : (wear.length : Int) = nw := by omega
  rw [ew] at f1
  cases g5 : (runs.any fun k => !inT k 0 ((nw : Int) - 1)) with
  | true =>
    have e0 := hF 7 (by decide) (by rw [f1, if_pos g5])
    rw [e0]
    refine ITri.cond (v := true) rfl (fun _ => ?_) (fun h => by cases h)
    refine ITri.seq ?_
    refine ITri.reg pokT ?_; simp -implicitDefEqProofs (disch := first | decide | exact of_eq_true (eq_true rfl) | omega | assumption) only [ ↓vcD, vcE, ↓vcG, vcF, evs, evP, evB, intsOf, fillC, Value.cells, pt, Value.oneCell', reduceIte, reduceCtorEq, Nat.reduceEqDiff, Nat.reduceAdd, Nat.reduceMul, Nat.reduceLT, Nat.reduceBEq, Nat.reduceLeDiff, Nat.reduceSub]
    refine ITri.ret ?_; exact EndR.plain (vs := [.int .i64 0, .int .i64 0, .int .i64 7]) (by simp) (by rfl) (by rfl) (by rfl)
  | false =>
  rw [if_neg (by rw [g5]; simp)] at f1
  obtain ⟨_, _, a3, a4, a5⟩ := ag_ok f1
  have e0 : agF life wear runs = (agP (·.2) life wear runs, agP (·.1) life wear runs, 0) := if_pos f1
  rw [e0]
  refine ITri.cond (v := false) rfl (fun h => by cases h) (fun _ => ?_); refine ITri.skip ?_; simp only [SeqQ_normal, BlkQ_normal]
  refine ITri.seq ?_
  refine ITri.reg pokT ?_; simp -implicitDefEqProofs (disch := first | decide | exact of_eq_true (eq_true rfl) | omega | assumption) only [ ↓vcD, vcE, ↓vcG, vcF, evs, evP, evB, intsOf, fillC, Value.cells, pt, Value.oneCell', reduceIte, reduceCtorEq, Nat.reduceEqDiff, Nat.reduceAdd, Nat.reduceMul, Nat.reduceLT, Nat.reduceBEq, Nat.reduceLeDiff, Nat.reduceSub] -- r7
  have hk : ∀ k ∈ runs, 0 ≤ k ∧ k < (nw : Int) := fun k hk => by have := a5 k hk; omega
  have H1 := first_x nw cw nr cr life wear runs 61 (first_c nw cw nr cr life wear runs 61 (·.2) hw hr (by omega) a3 (fun r hr => by have := a4 r hr; omega) hk (fun r {h} hs => high_f r hs))
  have H2 := first_x nw cw nr cr life wear runs 62 (first_c nw cw nr cr life wear runs 62 (·.1) hw hr (by omega) a3 (fun r hr => by have := a4 r hr; omega) hk (fun r {h} hs => low_f r hs))
  refine ITri.seq ?_
  refine ITri.reg pokT ?_; simp -implicitDefEqProofs (disch := first | decide | exact of_eq_true (eq_true rfl) | omega | assumption) only [ ↓vcD, vcE, ↓vcG, vcF, evs, evP, evB, intsOf, fillC, Value.cells, pt, Value.oneCell', reduceIte, reduceCtorEq, Nat.reduceEqDiff, Nat.reduceAdd, Nat.reduceMul, Nat.reduceLT, Nat.reduceBEq, Nat.reduceLeDiff, Nat.reduceSub] -- r8
  refine ⟨_, _, H1, ?_⟩
  try simp -implicitDefEqProofs (disch := first | decide | exact of_eq_true (eq_true rfl) | omega | assumption) only [ ↓vcD, vcE, ↓vcG, vcF, evs, evP, evB, intsOf, fillC, Value.cells, pt, Value.oneCell', reduceIte, reduceCtorEq, Nat.reduceEqDiff, Nat.reduceAdd, Nat.reduceMul, Nat.reduceLT, Nat.reduceBEq, Nat.reduceLeDiff, Nat.reduceSub]
  refine ⟨_, _, H2, ?_⟩
  try simp -implicitDefEqProofs (disch := first | decide | exact of_eq_true (eq_true rfl) | omega | assumption) only [ ↓vcD, vcE, ↓vcG, vcF, evs, evP, evB, intsOf, fillC, Value.cells, pt, Value.oneCell', reduceIte, reduceCtorEq, Nat.reduceEqDiff, Nat.reduceAdd, Nat.reduceMul, Nat.reduceLT, Nat.reduceBEq, Nat.reduceLeDiff, Nat.reduceSub]
  unfold agP
  rw [hr]
  refine ITri.ret ?_; exact EndR.plain (vs := [.int .i64 _, .int .i64 _, .int .i64 0]) (by simp) (by rfl) (by rfl) (by rfl)
theorem aged_f (nw nr : Nat) (life : Int) (wear : List Rg) (runs : List Int) (hw : wear.length = nw) (hr : runs.length = nr) (hb : nw ≤ 1000000) (hb2 : nr ≤ 1000000) {h : AH} {s t : Value} (h0 : h.sees 0 = true) (r : Rd h s nw (rows eR wear)) (r2 : Rd h t nr (rows eN runs)) :
    Fc Try.prog 19 [.int .i64 life, s, t] h (v3 (agF life wear runs)) h :=
  Fc.lift2 (mk := fun ss => [.int .i64 life] ++ ss ++ []) (mkv := fun _ => v3 (agF life wear runs)) (os := []) (fun c d => aged_c nw c nr d life wear runs hw hr hb hb2) (MkL.mid rfl rfl) (MkV.const rfl) (rows_no (f := eR) wear) (rows_no (f := eN) runs) (fun o ho => by cases ho) h0 r r2
end Go.Proofs.Ythoigkgjidcklaa
