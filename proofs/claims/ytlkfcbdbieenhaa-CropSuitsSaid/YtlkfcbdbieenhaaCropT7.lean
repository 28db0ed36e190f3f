/-
  Chapter 7, turns, by names: the smallest list of blocks that no setting suits.
-/
import Derived.Test.YtlkfcbdbieenhaaCropT6
import Derived.Test.YtlkfcbdbieenhaaMi
set_option linter.unusedSimpArgs false
set_option linter.unusedVariables false
namespace Go.Proofs.Ytlkfcbdbieenhaa
open Go.RowKit Go.Vm
set_option maxRecDepth 100000
/- slices.Clip[[]int,int] · slots 9 · names 0:s 1:s · results [2] -/
def ir90_r0 : IC := .reg [⟨some 2, none, false, .mv (.k (.slice none 0 0))⟩] (some [0])
def ir90_r1 : IC := .reg [⟨some 3, none, false, .mv (.t 0)⟩,
  ⟨some 4, none, false, .mv (.t 0)⟩,
  ⟨some 5, none, false, .len (.t 4)⟩,
  ⟨some 6, none, false, .mv (.t 0)⟩,
  ⟨some 7, none, false, .len (.t 6)⟩,
  ⟨some 8, none, false, .gen (.slice 71 (.tmp 3) none (some (.tmp 5)) (some (.tmp 7)))⟩,
  ⟨some 2, none, false, .mv (.t 8)⟩] (some [2])
def ir90_1 : IC := .seq ir90_r1 .ret
def ir90_2 : IC := .seq ir90_r0 ir90_1
def ir90 : IC := ir90_2
theorem fn90 : FnIs Try.prog 90 ir90 9 [.tmp 2] := ⟨Try.f90, Try.f90.body.getD .skip, Try.func90, by kernel_rfl, by kernel_rfl, by kernel_rfl, by kernel_rfl⟩
/- boule/crop.Conflict$1 · slots 16 · names 0:of 3:of 5:_ 6:ok · results [4] -/
def ir73_r0 : IC := .reg [⟨some 4, none, false, .mv (.k (.bool false))⟩] (some [0, 1, 2])
def ir73_r1 : IC := .reg [⟨some 8, none, false, .ldc (.t 1)⟩,
  ⟨some 9, none, false, .ldc (.t 2)⟩,
  ⟨some 10, none, false, .mv (.t 0)⟩,
  ⟨some 11, none, false, .call (.f 71) [(.t 8), (.t 9), (.t 10)]⟩,
  ⟨some 7, none, false, .mv (.t 11)⟩,
  ⟨some 12, none, false, .ext (.t 7) 0⟩,
  ⟨some 13, none, false, .ext (.t 7) 1⟩,
  ⟨some 5, none, false, .alloc [(.int .i64 0), (.int .i64 0)]⟩,
  ⟨none, none, false, .st 2 (.t 5) (.t 12)⟩,
  ⟨some 6, none, false, .mv (.t 13)⟩] (some [6])
def ir73_r2 : IC := .reg [⟨some 14, none, false, .mv (.t 6)⟩,
  ⟨some 15, none, false, .not (.t 14)⟩,
  ⟨some 4, none, false, .mv (.t 15)⟩] (some [4])
def ir73_1 : IC := .seq ir73_r2 .ret
def ir73_2 : IC := .seq ir73_r1 ir73_1
def ir73_3 : IC := .seq ir73_r0 ir73_2
def ir73 : IC := ir73_3
theorem fn73 : FnIs Try.prog 73 ir73 16 [.tmp 4] := ⟨Try.f73, Try.f73.body.getD .skip, Try.func73, by kernel_rfl, by kernel_rfl, by kernel_rfl, by kernel_rfl⟩
/- boule/crop.some · slots 40 · names 0:begin 1:from 2:n 3:many 4:is 5:begin 6:from 7:n 8:many 9:is 11:i 12:l · results [10] -/
def ir74_r0 : IC := .reg [⟨some 10, none, false, .mv (.k (.slice none 0 0))⟩] (some [0, 1, 2, 3, 4])
def ir74_r1 : IC := .reg [⟨some 13, none, false, .mv (.t 3)⟩,
  ⟨some 14, none, false, .cmp .eql (.t 13) (.k (.int .i64 0))⟩] (some [0, 1, 2, 3, 4, 14])
def ir74_r2 : IC := .reg [⟨some 15, none, false, .mv (.t 4)⟩,
  ⟨some 16, none, false, .mv (.t 0)⟩,
  ⟨some 17, none, false, .call (.t 15) [(.t 16)]⟩] (some [0, 17])
def ir74_r3 : IC := .reg [⟨some 18, none, false, .mv (.t 0)⟩,
  ⟨some 10, none, false, .mv (.t 18)⟩] (some [10])
def ir74_1 : IC := .seq ir74_r3 .ret
def ir74_2 : IC := .cond (.t 17) ir74_1 .skip
def ir74_3 : IC := .seq ir74_r2 ir74_2
def ir74_r4 : IC := .reg [⟨some 10, none, false, .mv (.k (.slice none 0 0))⟩] (some [10])
def ir74_4 : IC := .seq ir74_r4 .ret
def ir74_5 : IC := .seq ir74_3 ir74_4
def ir74_6 : IC := .cond (.t 14) ir74_5 .skip
def ir74_7 : IC := .seq ir74_r1 ir74_6
def ir74_r5 : IC := .reg [⟨some 19, none, false, .mv (.t 1)⟩,
  ⟨some 11, none, false, .mv (.t 19)⟩] (some [0, 2, 3, 4, 11])
def ir74_r6 : IC := .reg [⟨some 20, none, false, .mv (.t 11)⟩,
  ⟨some 21, none, false, .mv (.t 2)⟩,
  ⟨some 22, none, false, .cmp .lss (.t 20) (.t 21)⟩] (some [0, 2, 3, 4, 11, 22])
def ir74_8 : IC := .cond (.t 22) .skip (.exit 0)
def ir74_9 : IC := .seq ir74_r6 ir74_8
def ir74_r8 : IC := .reg [⟨some 25, none, false, .mv (.t 0)⟩,
  ⟨some 26, none, false, .call (.f 90) [(.t 25)]⟩,
  ⟨some 27, none, false, .mv (.t 11)⟩,
  ⟨some 28, none, false, .bsl 1 1 [(.int .i64 0)] [(0, (.t 27))]⟩,
  ⟨some 29, none, false, .app 1 8 (.t 26) (.t 28)⟩,
  ⟨some 30, none, false, .mv (.t 11)⟩,
  ⟨some 31, none, false, .ar .add (.t 30) (.k (.int .i64 1))⟩,
  ⟨some 32, none, false, .mv (.t 2)⟩,
  ⟨some 33, none, false, .mv (.t 3)⟩,
  ⟨some 34, none, false, .ar .sub (.t 33) (.k (.int .i64 1))⟩,
  ⟨some 35, none, false, .mv (.t 4)⟩,
  ⟨some 36, none, false, .call (.f 74) [(.t 29), (.t 31), (.t 32), (.t 34), (.t 35)]⟩,
  ⟨some 12, none, false, .mv (.t 36)⟩] (some [0, 2, 3, 4, 11, 12])
def ir74_r9 : IC := .reg [⟨some 37, none, false, .mv (.t 12)⟩,
  ⟨some 38, none, false, .gen (.binOp .neq 71 (.tmp 37) (.const (.slice none 0 0)) 71)⟩] (some [0, 2, 3, 4, 11, 12, 38])
def ir74_r10 : IC := .reg [⟨some 39, none, false, .mv (.t 12)⟩,
  ⟨some 10, none, false, .mv (.t 39)⟩] (some [10])
def ir74_10 : IC := .seq ir74_r10 .ret
def ir74_11 : IC := .cond (.t 38) ir74_10 .skip
def ir74_12 : IC := .seq ir74_r9 ir74_11
def ir74_13 : IC := .seq ir74_r8 ir74_12
def ir74_14 : IC := .block 1 ir74_13
def ir74_r7 : IC := .reg [⟨some 23, none, false, .mv (.t 11)⟩,
  ⟨some 24, none, false, .ar .add (.t 23) (.k (.int .i64 1))⟩,
  ⟨some 11, none, false, .mv (.t 24)⟩] (some [0, 2, 3, 4, 11])
def ir74_15 : IC := .seq ir74_14 ir74_r7
def ir74_16 : IC := .seq ir74_9 ir74_15
def ir74_17 : IC := .loop ir74_16
def ir74_18 : IC := .block 0 ir74_17
def ir74_19 : IC := .seq ir74_r5 ir74_18
def ir74_r11 : IC := .reg [⟨some 10, none, false, .mv (.k (.slice none 0 0))⟩] (some [10])
def ir74_20 : IC := .seq ir74_r11 .ret
def ir74_21 : IC := .seq ir74_19 ir74_20
def ir74_22 : IC := .seq ir74_7 ir74_21
def ir74_23 : IC := .seq ir74_r0 ir74_22
def ir74 : IC := ir74_23
theorem fn74 : FnIs Try.prog 74 ir74 40 [.tmp 10] := ⟨Try.f74, Try.f74.body.getD .skip, Try.func74, by kernel_rfl, by kernel_rfl, by kernel_rfl, by kernel_rfl⟩
theorem clip_c (n c : Nat) (cs : List Value) (hc : c < openB → n ≤ c) (hn : n < openB) : Fc Try.prog 90 [.slice (some ⟨1, 0, none⟩) n c] (Hp 2 [none, some (.cells ⟨cs, 0, false⟩)]) (.slice (some ⟨1, 0, none⟩) n n) (Hp 2 [none, some (.cells ⟨cs, 0, false⟩)]) := by
  refine Fc.introR (os := []) fn90 (by simp) rfl rfl ?_; simp only [argF]
  refine ITri.seq ?_
  refine ITri.reg pokT ?_; simp -implicitDefEqProofs (disch := first | decide | exact of_eq_true (eq_true rfl) | omega | assumption) only [ ↓vcD, vcE, evs, evP, evB, intsOf, fillC, Value.cells, pt, List.append_nil, List.nil_append, List.cons_append, List.length_cons, List.length_nil, List.filter_nil, List.map_nil, ↓List.getElem?_cons_zero, ↓List.getElem?_cons_succ, List.getElem?_cons_zero, List.getElem?_cons_succ, List.set_cons_zero, List.set_cons_succ, Option.join_some, Option.join_none, Option.map_some, List.all_cons, List.all_nil, Value.oneCell', reduceIte, reduceCtorEq, Nat.reduceEqDiff, Nat.reduceAdd, Nat.reduceMul, Nat.reduceLT, Nat.reduceBEq, Nat.reduceLeDiff, Nat.reduceSub, List.size_toArray]
  refine ITri.seq ?_
  refine ITri.reg pokT ?_; simp -implicitDefEqProofs (disch := first | decide | exact of_eq_true (eq_true rfl) | omega | assumption) only [ ↓vcD, vcE, evs, evP, evB, intsOf, fillC, Value.cells, pt, List.append_nil, List.nil_append, List.cons_append, List.length_cons, List.length_nil, List.filter_nil, List.map_nil, ↓List.getElem?_cons_zero, ↓List.getElem?_cons_succ, List.getElem?_cons_zero, List.getElem?_cons_succ, List.set_cons_zero, List.set_cons_succ, Option.join_some, Option.join_none, Option.map_some, List.all_cons, List.all_nil, Value.oneCell', reduceIte, reduceCtorEq, Nat.reduceEqDiff, Nat.reduceAdd, Nat.reduceMul, Nat.reduceLT, Nat.reduceBEq, Nat.reduceLeDiff, Nat.reduceSub, List.size_toArray]
  refine gen_clip u_sl i_int rfl rfl rfl hc hn ?_
  try simp -implicitDefEqProofs (disch := first | decide | exact of_eq_true (eq_true rfl) | omega | assumption) only [ ↓vcD, vcE, evs, evP, evB, intsOf, fillC, Value.cells, pt, List.append_nil, List.nil_append, List.cons_append, List.length_cons, List.length_nil, List.filter_nil, List.map_nil, ↓List.getElem?_cons_zero, ↓List.getElem?_cons_succ, List.getElem?_cons_zero, List.getElem?_cons_succ, List.set_cons_zero, List.set_cons_succ, Option.join_some, Option.join_none, Option.map_some, List.all_cons, List.all_nil, Value.oneCell', reduceIte, reduceCtorEq, Nat.reduceEqDiff, Nat.reduceAdd, Nat.reduceMul, Nat.reduceLT, Nat.reduceBEq, Nat.reduceLeDiff, Nat.reduceSub, List.size_toArray]
  refine ITri.ret ?_
  refine ⟨by simp, rfl, _, [], [], rfl, rfl, by simp, by simp, by simp, ?_, ?_, fun i o2 h => by simp at h⟩
  · show Value.slice _ _ _ = mv _ _ _
    simp [mv, mvS, xiL]
  · exact ⟨by simp, trivial⟩
abbrev cmL (n c : Nat) (l : List Tl) (tol : Int) (js : List Int) : List (Option AObj) := [none, some (.cells ⟨rows eT l, 0, false⟩), some (.cells ⟨[sT n c], 1, false⟩), some (.cells ⟨[.int .i64 tol], 1, false⟩), some (.cells ⟨rows eN js, 0, false⟩)]
theorem conf1_c (n c : Nat) (l : List Tl) (tol : Int) (m : Nat) (js : List Int) (hn : l.length = n) (hm : js.length = m) (hm1 : 1 ≤ m) (hmb : m ≤ 1000) (hj : ∀ j ∈ js, 0 ≤ j ∧ j < n) (ht : ∀ i, i < n → tltB (nth l i) = true) (h0 : 0 ≤ tol) (h1 : tol ≤ 36000) :
    Fc Try.prog 73 [.slice (some ⟨4, 0, none⟩) m openB, pt 2, pt 3] (Hp 5 (cmL n c l tol js)) (.bool (apart l tol js)) (Hp 5 (cmL n c l tol js)) := by
  refine Fc.intro0 fn73 (by simp) rfl rfl ?_; simp only [argF]
  refine ITri.seq ?_
  refine ITri.reg pokT ?_; simp -implicitDefEqProofs (disch := first | decide | exact of_eq_true (eq_true rfl) | omega | assumption) only [ ↓vcD, vcE, evs, evP, evB, intsOf, fillC, Value.cells, pt, List.append_nil, List.nil_append, List.cons_append, List.length_cons, List.length_nil, List.filter_nil, List.map_nil, ↓List.getElem?_cons_zero, ↓List.getElem?_cons_succ, List.getElem?_cons_zero, List.getElem?_cons_succ, List.set_cons_zero, List.set_cons_succ, Option.join_some, Option.join_none, Option.map_some, List.all_cons, List.all_nil, Value.oneCell', reduceIte, reduceCtorEq, Nat.reduceEqDiff, Nat.reduceAdd, Nat.reduceMul, Nat.reduceLT, Nat.reduceBEq, Nat.reduceLeDiff, Nat.reduceSub, List.size_toArray]
  refine ITri.seq ?_
  refine ITri.reg pokT ?_; simp -implicitDefEqProofs (disch := first | decide | exact of_eq_true (eq_true rfl) | omega | assumption) only [ ↓vcD, vcE, evs, evP, evB, intsOf, fillC, Value.cells, pt, List.append_nil, List.nil_append, List.cons_append, List.length_cons, List.length_nil, List.filter_nil, List.map_nil, ↓List.getElem?_cons_zero, ↓List.getElem?_cons_succ, List.getElem?_cons_zero, List.getElem?_cons_succ, List.set_cons_zero, List.set_cons_succ, Option.join_some, Option.join_none, Option.map_some, List.all_cons, List.all_nil, Value.oneCell', reduceIte, reduceCtorEq, Nat.reduceEqDiff, Nat.reduceAdd, Nat.reduceMul, Nat.reduceLT, Nat.reduceBEq, Nat.reduceLeDiff, Nat.reduceSub, List.size_toArray]
  refine ⟨_, _, suit_f n l tol m 4 js hn hm hm1 hmb hj ht h0 h1 (sees0 rfl (of_decide_eq_true rfl)) (Rd.hq rfl rfl) (rdAt_H rfl), ?_⟩
  try simp -implicitDefEqProofs (disch := first | decide | exact of_eq_true (eq_true rfl) | omega | assumption) only [ ↓vcD, vcE, evs, evP, evB, intsOf, fillC, Value.cells, pt, List.append_nil, List.nil_append, List.cons_append, List.length_cons, List.length_nil, List.filter_nil, List.map_nil, ↓List.getElem?_cons_zero, ↓List.getElem?_cons_succ, List.getElem?_cons_zero, List.getElem?_cons_succ, List.set_cons_zero, List.set_cons_succ, Option.join_some, Option.join_none, Option.map_some, List.all_cons, List.all_nil, Value.oneCell', reduceIte, reduceCtorEq, Nat.reduceEqDiff, Nat.reduceAdd, Nat.reduceMul, Nat.reduceLT, Nat.reduceBEq, Nat.reduceLeDiff, Nat.reduceSub, List.size_toArray]
  refine ITri.seq ?_
  refine ITri.reg pokT ?_; simp -implicitDefEqProofs (disch := first | decide | exact of_eq_true (eq_true rfl) | omega | assumption) only [ ↓vcD, vcE, evs, evP, evB, intsOf, fillC, Value.cells, pt, List.append_nil, List.nil_append, List.cons_append, List.length_cons, List.length_nil, List.filter_nil, List.map_nil, ↓List.getElem?_cons_zero, ↓List.getElem?_cons_succ, List.getElem?_cons_zero, List.getElem?_cons_succ, List.set_cons_zero, List.set_cons_succ, Option.join_some, Option.join_none, Option.map_some, List.all_cons, List.all_nil, Value.oneCell', reduceIte, reduceCtorEq, Nat.reduceEqDiff, Nat.reduceAdd, Nat.reduceMul, Nat.reduceLT, Nat.reduceBEq, Nat.reduceLeDiff, Nat.reduceSub, List.size_toArray]
  refine ITri.ret ?_; exact EndR.plain (by simp) (by rfl) (by rfl) (by rfl)

theorem clip_f {h : AH} {p : Nat × Nat × Bool} {n c : Nat} {cs : List Value} (h0 : h.sees 0 = true) (r : RdAt h p n cs) (hno : noAddrL cs = true) (hc : c < openB → n ≤ c) (hn : n < openB) (hp : p.2.2 = true → c = 0) : Fc Try.prog 90 [rdV p n c] h (rdV p n n) h := by
  have hz : p.2.2 = true → n = 0 := fun e => by
    have := r.2
    rw [if_pos e] at this
    exact this.1
  refine Fc.frameL (os := []) (clip_c n c cs hc hn) [(0, 0, false), p] rfl ⟨fr_none h0, fr_rd rfl r hno, trivial⟩ ?_ ?_ (fun o ho => by cases ho) ?_ ?_ rfl
  · exact ⟨okM_sl rfl (show 1 < 2 by decide) r hp, trivial⟩
  · exact okM_sl (ψ := psi1 _ 2 h.next) rfl (show 1 < 2 by decide) r hz
  · show mw _ _ :: mwL _ _ = _
    rw [mw_sl rfl]
    rfl
  · exact mw_sl (ψ := psi1 _ 2 h.next) rfl
/-- What comes of a search for a list of so many numbers behind a beginning. -/
def smV (kn : Nat) (b : Value) (m k : Nat) : Option (List Int) → Value
  | none => .slice none 0 0
  | some _ => if m = 0 then b else .slice (some ⟨kn, 0, none⟩) (k + m) openB
def smO (m : Nat) (js : List Int) : Option (List Int) → List AObj
  | none => []
  | some r => if m = 0 then [] else [.cells ⟨rows eN (js ++ r), 1, true⟩]
abbrev fnV : Value := .func (.func 73) #[] #[pt 2, pt 3]
theorem some_lift {wl n c k m cb kn : Nat} {l : List Tl} {tol : Int} {js : List Int} {p : Nat × Nat × Bool} {o : Option (List Int)} {a1 a2 a3 : Int} {L R : List (Option AObj)} (hL : L = none :: some (.cells ⟨rows eT l, 0, false⟩) :: some (.cells ⟨[sT n c], 1, false⟩) :: some (.cells ⟨[.int .i64 tol], 1, false⟩) :: R)
    (F : Fc Try.prog 74 [.slice (some ⟨4, 0, none⟩) k cb, .int .i64 a1, .int .i64 a2, .int .i64 a3, fnV] (Hp 5 (cmL n c l tol js)) (smV 5 (.slice (some ⟨4, 0, none⟩) k cb) m k o) (Hp 5 (cmL n c l tol js ++ (smO m js o).map some)))
    (r : RdAt (Hp wl L) p k (rows eN js)) (hp : p.2.2 = true → cb = 0) (hk : L.length = kn) :
    Fc Try.prog 74 [rdV p k cb, .int .i64 a1, .int .i64 a2, .int .i64 a3, fnV] (Hp wl L) (smV kn (rdV p k cb) m k o) ((Hp wl L).news (smO m js o)) := by
  subst hk
  have g : ∀ i o, L[i]? = some (some o) → (Hp wl L).get i = some o := fun i o e => by rw [Hp_get, e]; rfl
  have s : ∀ i, i < 4 → (Hp wl L).sees i = true := fun i hi => by
    have hl : i < L.length := by rw [hL]; simp; omega
    simp [AH.sees, Hq, hl]
  have hnx : (Hp wl L).next = L.length := rfl
  refine Fc.frameL F [(0, 0, false), (1, 0, false), (2, 0, false), (3, 0, false), p] ?_ ⟨fr_none (s 0 (by omega)), fr_rd (p := (1, 0, false)) (n := n) rfl ⟨s 1 (by omega), _, g 1 _ (by rw [hL]; rfl), ⟨[], by simp⟩, fun _ => Nat.zero_le _⟩ (rows_no _), ⟨s 2 (by omega), fun ob e => ?_⟩, ⟨s 3 (by omega), fun ob e => ?_⟩, fr_rd rfl r (rows_no _), trivial⟩ ?_ ?_ ?_ ?_ ?_ ?_
  · cases o with
    | none => rfl
    | some x =>
      simp only [smO]
      split <;> rfl
  · cases e
    refine .inr ⟨(fun e => by cases e), _, g 2 _ (by rw [hL]; rfl), ?_⟩
    refine ⟨⟨[], rfl⟩, (fun e => by cases e), ⟨⟨show 1 < 5 by decide, trivial⟩, trivial⟩, (fun e => by cases e), fun _ => Nat.one_ne_zero⟩
  · cases e
    refine .inr ⟨(fun e => by cases e), _, g 3 _ (by rw [hL]; rfl), ?_⟩
    exact ⟨⟨[], rfl⟩, (fun e => by cases e), ⟨trivial, trivial⟩, (fun e => by cases e), fun _ => Nat.one_ne_zero⟩
  · refine ⟨okM_sl rfl (show 4 < 5 by decide) r hp, trivial, trivial, trivial, ⟨trivial, trivial, ?_⟩, trivial⟩
    exact ⟨⟨show 2 < 5 by decide, trivial⟩, ⟨show 3 < 5 by decide, trivial⟩, trivial⟩
  · cases o with
    | none => exact (by trivial)
    | some x =>
      simp only [smV, smO]
      split
      · exact okM_sl (ψ := psi1 _ 5 _) rfl (show 4 < _ by simp) r hp
      · exact ⟨show 5 < 5 + 1 by decide, trivial⟩
  · intro ob ho
    cases o with
    | none => cases ho
    | some x =>
      simp only [smO] at ho
      split at ho
      · cases ho
      · simp only [List.mem_singleton] at ho
        subst ho
        exact okML_noAddr _ _ _ (rows_no _)
  · show mw _ _ :: _ = _
    rw [mw_sl rfl]
    rfl
  · cases o with
    | none => rfl
    | some x =>
      simp only [smV]
      split
      · exact mw_sl (ψ := psi1 _ 5 _) rfl
      · rfl
  · cases o with
    | none => rfl
    | some x =>
      simp only [smO]
      split
      · rfl
      · show (Hp wl L).news [.cells ⟨mwL _ (rows eN (js ++ x)), 1, true⟩] = _
        rw [mwL_noAddr _ _ (rows_no _)]

theorem lsP_pre (n : Int) (m : Nat) (f : Int) : ∀ (d j : Nat), ∃ r, lsP n m f (j + d) = lsP n m f j ++ r
  | 0, j => ⟨[], by simp⟩
  | d + 1, j => by
    obtain ⟨r, hr⟩ := lsP_pre n m f d j
    rw [show j + (d + 1) = (j + d) + 1 by omega, lsP_succ, hr, List.append_assoc]
    exact ⟨_, rfl⟩
theorem find_hit {n : Int} {m : Nat} {f : Int} {j : Nat} {p : List Int → Bool} {r : List Int} (hj : j < (n - f).toNat) (h1 : (lsP n m f j).find? p = none) (h2 : (lsM n m (f + j + 1)).find? (fun r => p ((f + (j : Int)) :: r)) = some r) : (lsM n (m + 1) f).find? p = some ((f + (j : Int)) :: r) := by
  obtain ⟨q, hq⟩ := lsP_pre n m f ((n - f).toNat - (j + 1)) (j + 1)
  rw [lsM_succ, show (n - f).toNat = j + 1 + ((n - f).toNat - (j + 1)) by omega, hq, lsP_succ, List.find?_append, List.find?_append, h1]
  have : ((lsM n m (f + j + 1)).map ((f + (j : Int)) :: ·)).find? p = some ((f + (j : Int)) :: r) := by
    rw [List.find?_map]
    have e : (p ∘ fun x => (f + (j : Int)) :: x) = fun r => p ((f + (j : Int)) :: r) := rfl
    rw [e, h2]
    rfl
  rw [this]
  rfl
theorem find_miss {n : Int} {m : Nat} {f : Int} {j : Nat} {p : List Int → Bool} (h1 : (lsP n m f j).find? p = none) (h2 : (lsM n m (f + j + 1)).find? (fun r => p ((f + (j : Int)) :: r)) = none) : (lsP n m f (j + 1)).find? p = none := by
  have : ((lsM n m (f + j + 1)).map ((f + (j : Int)) :: ·)).find? p = none := by
    rw [List.find?_map]
    have e : (p ∘ fun x => (f + (j : Int)) :: x) = fun r => p ((f + (j : Int)) :: r) := rfl
    rw [e, h2]
    rfl
  rw [lsP_succ, List.find?_append, h1, this]
  rfl
theorem some_c (n c : Nat) (l : List Tl) (tol : Int) (hn : l.length = n) (hnb : n ≤ 100) (ht : ∀ i, i < n → tltB (nth l i) = true) (h0 : 0 ≤ tol) (h1 : tol ≤ 36000) : ∀ (m k cb : Nat) (f : Int) (js : List Int), js.length = k → k + m ≤ 100 → 1 ≤ k + m → (∀ j ∈ js, 0 ≤ j ∧ j < n) → 0 ≤ f → f ≤ 1000 → (k = 0 ∧ cb = 0 ∨ cb = openB) →
    Fc Try.prog 74 [.slice (some ⟨4, 0, none⟩) k cb, .int .i64 f, .int .i64 n, .int .i64 m, fnV] (Hp 5 (cmL n c l tol js)) (smV 5 (.slice (some ⟨4, 0, none⟩) k cb) m k ((lsM n m f).find? fun r => apart l tol (js ++ r))) (Hp 5 (cmL n c l tol js ++ (smO m js ((lsM n m f).find? fun r => apart l tol (js ++ r))).map some)) := by
  intro m
  induction m with
  | zero =>
    intro k cb f js hk hb h1k hj hf hf2 hcb
    obtain rfl : cb = openB := by rcases hcb with ⟨e, _⟩ | e; omega; exact e
    have ho : (lsM n 0 f).find? (fun r => apart l tol (js ++ r)) = if apart l tol js = true then some [] else none := by
      simp only [lsM, List.find?_cons, List.append_nil, List.find?_nil]
      cases apart l tol js <;> rfl
    rw [ho]
    show Fc _ _ _ _ _ (Hq 5 [] (_ ++ _))
    rw [← Hq_news]
    refine Fc.introR fn74 (by simp) rfl rfl ?_; simp only [argF]
    refine ITri.seq ?_
    refine ITri.reg pokT ?_; simp -implicitDefEqProofs (disch := first | decide | exact of_eq_true (eq_true rfl) | omega | assumption) only [ ↓vcD, vcE, evs, evP, evB, intsOf, fillC, Value.cells, pt, List.append_nil, List.nil_append, List.cons_append, List.length_cons, List.length_nil, List.filter_nil, List.map_nil, ↓List.getElem?_cons_zero, ↓List.getElem?_cons_succ, List.getElem?_cons_zero, List.getElem?_cons_succ, List.set_cons_zero, List.set_cons_succ, Option.join_some, Option.join_none, Option.map_some, List.all_cons, List.all_nil, Value.oneCell', reduceIte, reduceCtorEq, Nat.reduceEqDiff, Nat.reduceAdd, Nat.reduceMul, Nat.reduceLT, Nat.reduceBEq, Nat.reduceLeDiff, Nat.reduceSub, List.size_toArray] -- r0 turn.go:114
    refine ITri.seq ?_
    refine ITri.seq ?_
    refine ITri.reg pokT ?_; simp -implicitDefEqProofs (disch := first | decide | exact of_eq_true (eq_true rfl) | omega | assumption) only [decide_true,  ↓vcD, vcE, evs, evP, evB, intsOf, fillC, Value.cells, pt, List.append_nil, List.nil_append, List.cons_append, List.length_cons, List.length_nil, List.filter_nil, List.map_nil, ↓List.getElem?_cons_zero, ↓List.getElem?_cons_succ, List.getElem?_cons_zero, List.getElem?_cons_succ, List.set_cons_zero, List.set_cons_succ, Option.join_some, Option.join_none, Option.map_some, List.all_cons, List.all_nil, Value.oneCell', reduceIte, reduceCtorEq, Nat.reduceEqDiff, Nat.reduceAdd, Nat.reduceMul, Nat.reduceLT, Nat.reduceBEq, Nat.reduceLeDiff, Nat.reduceSub, List.size_toArray] -- r1 turn.go:115
    refine ITri.cond (v := true) rfl (fun _ => ?_) (fun h => by cases h)
    refine ITri.seq ?_
    refine ITri.seq ?_
    refine ITri.reg pokT ?_; simp -implicitDefEqProofs (disch := first | decide | exact of_eq_true (eq_true rfl) | omega | assumption) only [ ↓vcD, vcE, evs, evP, evB, intsOf, fillC, Value.cells, pt, List.append_nil, List.nil_append, List.cons_append, List.length_cons, List.length_nil, List.filter_nil, List.map_nil, ↓List.getElem?_cons_zero, ↓List.getElem?_cons_succ, List.getElem?_cons_zero, List.getElem?_cons_succ, List.set_cons_zero, List.set_cons_succ, Option.join_some, Option.join_none, Option.map_some, List.all_cons, List.all_nil, Value.oneCell', reduceIte, reduceCtorEq, Nat.reduceEqDiff, Nat.reduceAdd, Nat.reduceMul, Nat.reduceLT, Nat.reduceBEq, Nat.reduceLeDiff, Nat.reduceSub, List.size_toArray]
    refine ⟨_, _, conf1_c n c l tol k js hn hk (by omega) (by omega) hj ht h0 h1, ?_⟩
    try simp -implicitDefEqProofs (disch := first | decide | exact of_eq_true (eq_true rfl) | omega | assumption) only [ ↓vcD, vcE, evs, evP, evB, intsOf, fillC, Value.cells, pt, List.append_nil, List.nil_append, List.cons_append, List.length_cons, List.length_nil, List.filter_nil, List.map_nil, ↓List.getElem?_cons_zero, ↓List.getElem?_cons_succ, List.getElem?_cons_zero, List.getElem?_cons_succ, List.set_cons_zero, List.set_cons_succ, Option.join_some, Option.join_none, Option.map_some, List.all_cons, List.all_nil, Value.oneCell', reduceIte, reduceCtorEq, Nat.reduceEqDiff, Nat.reduceAdd, Nat.reduceMul, Nat.reduceLT, Nat.reduceBEq, Nat.reduceLeDiff, Nat.reduceSub, List.size_toArray]
    cases ha : apart l tol js with
    | true =>
      refine ITri.cond (v := true) rfl (fun _ => ?_) (fun h => by cases h)
      refine ITri.seq ?_
      refine ITri.reg pokT ?_; simp -implicitDefEqProofs (disch := first | decide | exact of_eq_true (eq_true rfl) | omega | assumption) only [ ↓vcD, vcE, evs, evP, evB, intsOf, fillC, Value.cells, pt, List.append_nil, List.nil_append, List.cons_append, List.length_cons, List.length_nil, List.filter_nil, List.map_nil, ↓List.getElem?_cons_zero, ↓List.getElem?_cons_succ, List.getElem?_cons_zero, List.getElem?_cons_succ, List.set_cons_zero, List.set_cons_succ, Option.join_some, Option.join_none, Option.map_some, List.all_cons, List.all_nil, Value.oneCell', reduceIte, reduceCtorEq, Nat.reduceEqDiff, Nat.reduceAdd, Nat.reduceMul, Nat.reduceLT, Nat.reduceBEq, Nat.reduceLeDiff, Nat.reduceSub, List.size_toArray]
      refine ITri.ret ?_
      refine ⟨by simp, rfl, _, [], [], rfl, rfl, by simp, by simp, by simp, ?_, ?_, fun i o2 h => by simp [smO] at h⟩
      · rfl
      · exact ⟨show 4 < _ by simp [smO], trivial⟩
    | false =>
      refine ITri.cond (v := false) rfl (fun h => by cases h) (fun _ => ?_); refine ITri.skip ?_; simp only [SeqQ_normal, BlkQ_normal]
      refine ITri.seq ?_
      refine ITri.reg pokT ?_; simp -implicitDefEqProofs (disch := first | decide | exact of_eq_true (eq_true rfl) | omega | assumption) only [ ↓vcD, vcE, evs, evP, evB, intsOf, fillC, Value.cells, pt, List.append_nil, List.nil_append, List.cons_append, List.length_cons, List.length_nil, List.filter_nil, List.map_nil, ↓List.getElem?_cons_zero, ↓List.getElem?_cons_succ, List.getElem?_cons_zero, List.getElem?_cons_succ, List.set_cons_zero, List.set_cons_succ, Option.join_some, Option.join_none, Option.map_some, List.all_cons, List.all_nil, Value.oneCell', reduceIte, reduceCtorEq, Nat.reduceEqDiff, Nat.reduceAdd, Nat.reduceMul, Nat.reduceLT, Nat.reduceBEq, Nat.reduceLeDiff, Nat.reduceSub, List.size_toArray]
      refine ITri.ret ?_; exact EndR.plain (vs := [.slice none 0 0]) (by simp) (by rfl) (by rfl) (by rfl)
  | succ m ih =>
    intro k cb f js hk hb h1k hj hf hf2 hcb
    generalize ho : (lsM n (m + 1) f).find? (fun r => apart l tol (js ++ r)) = o
    show Fc _ _ _ _ _ (Hq 5 [] (_ ++ _))
    rw [← Hq_news]
    refine Fc.introR fn74 (by simp) rfl rfl ?_; simp only [argF]
    refine ITri.seq ?_
    refine ITri.reg pokT ?_; simp -implicitDefEqProofs (disch := first | decide | exact of_eq_true (eq_true rfl) | omega | assumption) only [ ↓vcD, vcE, evs, evP, evB, intsOf, fillC, Value.cells, pt, List.append_nil, List.nil_append, List.cons_append, List.length_cons, List.length_nil, List.filter_nil, List.map_nil, ↓List.getElem?_cons_zero, ↓List.getElem?_cons_succ, List.getElem?_cons_zero, List.getElem?_cons_succ, List.set_cons_zero, List.set_cons_succ, Option.join_some, Option.join_none, Option.map_some, List.all_cons, List.all_nil, Value.oneCell', reduceIte, reduceCtorEq, Nat.reduceEqDiff, Nat.reduceAdd, Nat.reduceMul, Nat.reduceLT, Nat.reduceBEq, Nat.reduceLeDiff, Nat.reduceSub, List.size_toArray] -- r0 turn.go:114
    refine ITri.seq ?_
    refine ITri.seq ?_
    have g1 : ¬ ((m : Int) + 1 = 0) := by omega
    refine ITri.reg pokT ?_; simp -implicitDefEqProofs (disch := first | decide | exact of_eq_true (eq_true rfl) | omega | assumption) only [g1, decide_false,  ↓vcD, vcE, evs, evP, evB, intsOf, fillC, Value.cells, pt, List.append_nil, List.nil_append, List.cons_append, List.length_cons, List.length_nil, List.filter_nil, List.map_nil, ↓List.getElem?_cons_zero, ↓List.getElem?_cons_succ, List.getElem?_cons_zero, List.getElem?_cons_succ, List.set_cons_zero, List.set_cons_succ, Option.join_some, Option.join_none, Option.map_some, List.all_cons, List.all_nil, Value.oneCell', reduceIte, reduceCtorEq, Nat.reduceEqDiff, Nat.reduceAdd, Nat.reduceMul, Nat.reduceLT, Nat.reduceBEq, Nat.reduceLeDiff, Nat.reduceSub, List.size_toArray] -- r1 turn.go:115
    refine ITri.cond (v := false) rfl (fun h => by cases h) (fun _ => ?_); refine ITri.skip ?_; simp only [SeqQ_normal, BlkQ_normal]
    refine ITri.seq ?_
    refine ITri.seq ?_
    refine ITri.reg pokT ?_; simp -implicitDefEqProofs (disch := first | decide | exact of_eq_true (eq_true rfl) | omega | assumption) only [ ↓vcD, vcE, evs, evP, evB, intsOf, fillC, Value.cells, pt, List.append_nil, List.nil_append, List.cons_append, List.length_cons, List.length_nil, List.filter_nil, List.map_nil, ↓List.getElem?_cons_zero, ↓List.getElem?_cons_succ, List.getElem?_cons_zero, List.getElem?_cons_succ, List.set_cons_zero, List.set_cons_succ, Option.join_some, Option.join_none, Option.map_some, List.all_cons, List.all_nil, Value.oneCell', reduceIte, reduceCtorEq, Nat.reduceEqDiff, Nat.reduceAdd, Nat.reduceMul, Nat.reduceLT, Nat.reduceBEq, Nat.reduceLeDiff, Nat.reduceSub, List.size_toArray] -- r5 turn.go:121
    refine ITri.block ?_ -- 0
    refine ITri.loop (fun j : Nat => [(0, .slice (some ⟨4, 0, none⟩) k cb), (2, .int .i64 n), (3, .int .i64 (m + 1)), (4, fnV), (11, .int .i64 (f + j))]) (fun _ => []) (fun j => Hp 5 (cmL n c l tol js)) (fun j => j ≤ (n - f).toNat ∧ (lsP n m f j).find? (fun r => apart l tol (js ++ r)) = none) (fun j => (n - f).toNat - j) 0 ⟨Nat.zero_le _, rfl⟩ (Wk.sub ⟨rfl, rfl, rfl, rfl, by simp [lk], trivial⟩) fun j hj2 => ?_
    obtain ⟨hj2, hP⟩ := hj2
    refine ITri.seq ?_
    refine ITri.seq ?_
    refine ITri.reg pokT ?_; simp -implicitDefEqProofs (disch := first | decide | exact of_eq_true (eq_true rfl) | omega | assumption) only [ ↓vcD, vcE, evs, evP, evB, intsOf, fillC, Value.cells, pt, List.append_nil, List.nil_append, List.cons_append, List.length_cons, List.length_nil, List.filter_nil, List.map_nil, ↓List.getElem?_cons_zero, ↓List.getElem?_cons_succ, List.getElem?_cons_zero, List.getElem?_cons_succ, List.set_cons_zero, List.set_cons_succ, Option.join_some, Option.join_none, Option.map_some, List.all_cons, List.all_nil, Value.oneCell', reduceIte, reduceCtorEq, Nat.reduceEqDiff, Nat.reduceAdd, Nat.reduceMul, Nat.reduceLT, Nat.reduceBEq, Nat.reduceLeDiff, Nat.reduceSub, List.size_toArray] -- r6 turn.go:121
    refine ITri.condD (by rfl) (fun h4 => ?_) (fun h4 => ?_) -- %22
    rotate_left
    · refine ITri.exit ?_; try simp -implicitDefEqProofs (disch := first | decide | exact of_eq_true (eq_true rfl) | omega | assumption) only [ ↓vcD, vcE, evs, evP, evB, intsOf, fillC, Value.cells, pt, List.append_nil, List.nil_append, List.cons_append, List.length_cons, List.length_nil, List.filter_nil, List.map_nil, ↓List.getElem?_cons_zero, ↓List.getElem?_cons_succ, List.getElem?_cons_zero, List.getElem?_cons_succ, List.set_cons_zero, List.set_cons_succ, Option.join_some, Option.join_none, Option.map_some, List.all_cons, List.all_nil, Value.oneCell', reduceIte, reduceCtorEq, Nat.reduceEqDiff, Nat.reduceAdd, Nat.reduceMul, Nat.reduceLT, Nat.reduceBEq, Nat.reduceLeDiff, Nat.reduceSub, List.size_toArray]
      refine ITri.seq ?_
      refine ITri.reg pokT ?_; simp -implicitDefEqProofs (disch := first | decide | exact of_eq_true (eq_true rfl) | omega | assumption) only [ ↓vcD, vcE, evs, evP, evB, intsOf, fillC, Value.cells, pt, List.append_nil, List.nil_append, List.cons_append, List.length_cons, List.length_nil, List.filter_nil, List.map_nil, ↓List.getElem?_cons_zero, ↓List.getElem?_cons_succ, List.getElem?_cons_zero, List.getElem?_cons_succ, List.set_cons_zero, List.set_cons_succ, Option.join_some, Option.join_none, Option.map_some, List.all_cons, List.all_nil, Value.oneCell', reduceIte, reduceCtorEq, Nat.reduceEqDiff, Nat.reduceAdd, Nat.reduceMul, Nat.reduceLT, Nat.reduceBEq, Nat.reduceLeDiff, Nat.reduceSub, List.size_toArray]
      have : o = none := by
        rw [← ho, lsM_succ, show (n - f : Int).toNat = j by omega, hP]
      subst this
      refine ITri.ret ?_; exact EndR.plain (vs := [.slice none 0 0]) (by simp) (by rfl) (by rfl) (by rfl)
    refine ITri.skip ?_; simp only [SeqQ_normal, BlkQ_normal]
    refine ITri.seq ?_
    refine ITri.block ?_ -- 1
    refine ITri.seq ?_
    have hkL : (rows eN js).length = k * 1 := by rw [rows_len, hk]
    have hob : 100 < openB := by unfold openB; omega
    have hcap : cb < openB → k ≤ cb := fun h => by rcases hcb with ⟨e, _⟩ | e <;> omega
    have hapI : ∀ (c2 : Nat) (K : Value → AH → Prop), appK (Hq 5 [] (cmL n c l tol js ++ [some (.cells ⟨[.int .i64 (f + j)], 1, false⟩)])) 1 8 (.slice (some ⟨4, 0, none⟩) k k) (.slice (some ⟨5, 0, none⟩) 1 c2) K =
        K (.slice (some ⟨6, 0, none⟩) (k + 1) openB) (Hq 5 [] (cmL n c l tol js ++ [some (.cells ⟨[.int .i64 (f + j)], 1, false⟩), some (.cells ⟨rows eN (js ++ [f + (j : Int)]), 1, true⟩)])) := fun c2 K => by
      rw [appK_g (sz' := 0) (old := rows eN js) (op := false) rfl rfl hkL (by omega) (by omega) (by omega), cellsAt_H, rows_append]
      show chk _ _ = _
      rw [chk_true (by omega)]
      rfl
    simp only [List.cons_append, List.nil_append] at hapI
    refine ITri.reg pokT ?_; simp -implicitDefEqProofs (disch := first | decide | exact of_eq_true (eq_true rfl) | omega | assumption) only [ ↓vcD, vcE, evs, evP, evB, intsOf, fillC, Value.cells, pt, List.append_nil, List.nil_append, List.cons_append, List.length_cons, List.length_nil, List.filter_nil, List.map_nil, ↓List.getElem?_cons_zero, ↓List.getElem?_cons_succ, List.getElem?_cons_zero, List.getElem?_cons_succ, List.set_cons_zero, List.set_cons_succ, Option.join_some, Option.join_none, Option.map_some, List.all_cons, List.all_nil, Value.oneCell', reduceIte, reduceCtorEq, Nat.reduceEqDiff, Nat.reduceAdd, Nat.reduceMul, Nat.reduceLT, Nat.reduceBEq, Nat.reduceLeDiff, Nat.reduceSub, List.size_toArray]
    refine ⟨_, _, clip_f (p := (4, 0, false)) (sees0 rfl (of_decide_eq_true rfl)) (rdAt_H rfl) (rows_no _) hcap (by omega) (fun e => by cases e), ?_⟩
    simp only [rdV]
    have hm1 : (m : Int) + 1 - 1 = m := by omega
    simp -implicitDefEqProofs (disch := first | decide | exact of_eq_true (eq_true rfl) | omega | assumption) only [hapI, hm1,  ↓vcD, vcE, evs, evP, evB, intsOf, fillC, Value.cells, pt, List.append_nil, List.nil_append, List.cons_append, List.length_cons, List.length_nil, List.filter_nil, List.map_nil, ↓List.getElem?_cons_zero, ↓List.getElem?_cons_succ, List.getElem?_cons_zero, List.getElem?_cons_succ, List.set_cons_zero, List.set_cons_succ, Option.join_some, Option.join_none, Option.map_some, List.all_cons, List.all_nil, Value.oneCell', reduceIte, reduceCtorEq, Nat.reduceEqDiff, Nat.reduceAdd, Nat.reduceMul, Nat.reduceLT, Nat.reduceBEq, Nat.reduceLeDiff, Nat.reduceSub, List.size_toArray]
    have IH := some_lift (kn := 7) (wl := 5) (p := (6, 0, false)) (cb := openB) (L := cmL n c l tol js ++ [some (.cells ⟨[.int .i64 (f + j)], 1, false⟩), some (.cells ⟨rows eN (js ++ [f + (j : Int)]), 1, true⟩)]) rfl (ih (k + 1) openB (f + j + 1) (js ++ [f + (j : Int)]) (by simp [hk]) (by omega) (by omega) (fun x hx => by
      rcases List.mem_append.1 hx with h | h
      · exact hj x h
      · simp only [List.mem_singleton] at h
        omega) (by omega) (by omega) (.inr rfl)) (rdAt_H rfl) (fun e => by cases e) rfl
    have hres : (lsM n m (f + j + 1)).find? (fun r => apart l tol (js ++ [f + (j : Int)] ++ r)) = (lsM n m (f + j + 1)).find? (fun r => apart l tol (js ++ ((f + (j : Int)) :: r))) := by
      simp only [List.append_assoc, List.cons_append, List.nil_append]
    rw [hres] at IH
    refine ⟨_, _, IH, ?_⟩
    cases hr : (lsM n m (f + j + 1)).find? (fun r => apart l tol (js ++ ((f + (j : Int)) :: r))) with
    | none =>
      have q2 := find_miss (p := fun r => apart l tol (js ++ r)) hP hr
      simp only [smV, smO, AH.news, List.foldl_nil]
      try simp -implicitDefEqProofs (disch := first | decide | exact of_eq_true (eq_true rfl) | omega | assumption) only [ ↓vcD, vcE, evs, evP, evB, intsOf, fillC, Value.cells, pt, List.append_nil, List.nil_append, List.cons_append, List.length_cons, List.length_nil, List.filter_nil, List.map_nil, ↓List.getElem?_cons_zero, ↓List.getElem?_cons_succ, List.getElem?_cons_zero, List.getElem?_cons_succ, List.set_cons_zero, List.set_cons_succ, Option.join_some, Option.join_none, Option.map_some, List.all_cons, List.all_nil, Value.oneCell', reduceIte, reduceCtorEq, Nat.reduceEqDiff, Nat.reduceAdd, Nat.reduceMul, Nat.reduceLT, Nat.reduceBEq, Nat.reduceLeDiff, Nat.reduceSub, List.size_toArray]
      refine ITri.seq ?_
      refine ITri.reg pokT ?_; simp -implicitDefEqProofs (disch := first | decide | exact of_eq_true (eq_true rfl) | omega | assumption) only [ ↓vcD, vcE, evs, evP, evB, intsOf, fillC, Value.cells, pt, List.append_nil, List.nil_append, List.cons_append, List.length_cons, List.length_nil, List.filter_nil, List.map_nil, ↓List.getElem?_cons_zero, ↓List.getElem?_cons_succ, List.getElem?_cons_zero, List.getElem?_cons_succ, List.set_cons_zero, List.set_cons_succ, Option.join_some, Option.join_none, Option.map_some, List.all_cons, List.all_nil, Value.oneCell', reduceIte, reduceCtorEq, Nat.reduceEqDiff, Nat.reduceAdd, Nat.reduceMul, Nat.reduceLT, Nat.reduceBEq, Nat.reduceLeDiff, Nat.reduceSub, List.size_toArray]
      refine gen_ni (by kernel_rfl) rfl ?_
      try simp -implicitDefEqProofs (disch := first | decide | exact of_eq_true (eq_true rfl) | omega | assumption) only [ ↓vcD, vcE, evs, evP, evB, intsOf, fillC, Value.cells, pt, List.append_nil, List.nil_append, List.cons_append, List.length_cons, List.length_nil, List.filter_nil, List.map_nil, ↓List.getElem?_cons_zero, ↓List.getElem?_cons_succ, List.getElem?_cons_zero, List.getElem?_cons_succ, List.set_cons_zero, List.set_cons_succ, Option.join_some, Option.join_none, Option.map_some, List.all_cons, List.all_nil, Value.oneCell', reduceIte, reduceCtorEq, Nat.reduceEqDiff, Nat.reduceAdd, Nat.reduceMul, Nat.reduceLT, Nat.reduceBEq, Nat.reduceLeDiff, Nat.reduceSub, List.size_toArray]
      refine ITri.cond (v := false) rfl (fun h => by cases h) (fun _ => ?_); refine ITri.skip ?_; simp only [SeqQ_normal, BlkQ_normal]
      refine ITri.reg pokT ?_; simp -implicitDefEqProofs (disch := first | decide | exact of_eq_true (eq_true rfl) | omega | assumption) only [ ↓vcD, vcE, evs, evP, evB, intsOf, fillC, Value.cells, pt, List.append_nil, List.nil_append, List.cons_append, List.length_cons, List.length_nil, List.filter_nil, List.map_nil, ↓List.getElem?_cons_zero, ↓List.getElem?_cons_succ, List.getElem?_cons_zero, List.getElem?_cons_succ, List.set_cons_zero, List.set_cons_succ, Option.join_some, Option.join_none, Option.map_some, List.all_cons, List.all_nil, Value.oneCell', reduceIte, reduceCtorEq, Nat.reduceEqDiff, Nat.reduceAdd, Nat.reduceMul, Nat.reduceLT, Nat.reduceBEq, Nat.reduceLeDiff, Nat.reduceSub, List.size_toArray]
      refine LoopQ.next (j + 1) ⟨by omega, q2⟩ (by omega) (Wk.gc [0, 1, 2, 3, 4] [] (of_decide_eq_true rfl) (of_decide_eq_true rfl) rfl rfl (of_decide_eq_true rfl) rfl rfl (fun _ h => by cases h) rfl (by simp -implicitDefEqProofs (disch := first | decide | exact of_eq_true (eq_true rfl) | omega | assumption) only [objOK, sgL, xiL, objAt, nilO, OM, mvL, mv, mvS, okS, okP, mvL_rows, okML, okM, okML_rows, List.getElem?_cons_zero, Option.getD_some, implies_true, imp_self, ne_eq, and_self, ↓vcD, vcE, evs, evP, evB, intsOf, fillC, Value.cells, pt, List.append_nil, List.nil_append, List.cons_append, List.length_cons, List.length_nil, List.filter_nil, List.map_nil, ↓List.getElem?_cons_zero, ↓List.getElem?_cons_succ, List.getElem?_cons_zero, List.getElem?_cons_succ, List.set_cons_zero, List.set_cons_succ, Option.join_some, Option.join_none, Option.map_some, List.all_cons, List.all_nil, Value.oneCell', reduceIte, reduceCtorEq, Nat.reduceEqDiff, Nat.reduceAdd, Nat.reduceMul, Nat.reduceLT, Nat.reduceBEq, Nat.reduceLeDiff, Nat.reduceSub, List.size_toArray]) (by simp -implicitDefEqProofs (disch := first | decide | exact of_eq_true (eq_true rfl) | omega | assumption) only [mvF, okFB, fnV, Int.add_assoc, valOK, sgL, xiL, mv, mvA, mvL, mvS, okS, okP, okM, okMA, okML, Option.getD_some, implies_true, and_self, Int.natCast_add, Int.cast_ofNat_Int, ↓vcD, vcE, evs, evP, evB, intsOf, fillC, Value.cells, pt, List.append_nil, List.nil_append, List.cons_append, List.length_cons, List.length_nil, List.filter_nil, List.map_nil, ↓List.getElem?_cons_zero, ↓List.getElem?_cons_succ, List.getElem?_cons_zero, List.getElem?_cons_succ, List.set_cons_zero, List.set_cons_succ, Option.join_some, Option.join_none, Option.map_some, List.all_cons, List.all_nil, Value.oneCell', reduceIte, reduceCtorEq, Nat.reduceEqDiff, Nat.reduceAdd, Nat.reduceMul, Nat.reduceLT, Nat.reduceBEq, Nat.reduceLeDiff, Nat.reduceSub, List.size_toArray]) (fun _ h => by cases h) ⟨rfl, fun _ h => by cases h⟩)
    | some r =>
      have q2 := find_hit (n := n) (f := f) (j := j) (p := fun r => apart l tol (js ++ r)) (by omega) hP hr
      rw [ho] at q2
      subst q2
      have hkm : k + (m + 1) ≠ 0 := by omega
      by_cases hm0 : m = 0
      · subst hm0
        have hr0 : r = [] := by
          have := List.mem_of_find?_eq_some hr
          simpa [lsM] using this
        subst hr0
        simp only [smV, smO, if_true, AH.news, List.foldl_nil, rdV]
        try simp -implicitDefEqProofs (disch := first | decide | exact of_eq_true (eq_true rfl) | omega | assumption) only [ ↓vcD, vcE, evs, evP, evB, intsOf, fillC, Value.cells, pt, List.append_nil, List.nil_append, List.cons_append, List.length_cons, List.length_nil, List.filter_nil, List.map_nil, ↓List.getElem?_cons_zero, ↓List.getElem?_cons_succ, List.getElem?_cons_zero, List.getElem?_cons_succ, List.set_cons_zero, List.set_cons_succ, Option.join_some, Option.join_none, Option.map_some, List.all_cons, List.all_nil, Value.oneCell', reduceIte, reduceCtorEq, Nat.reduceEqDiff, Nat.reduceAdd, Nat.reduceMul, Nat.reduceLT, Nat.reduceBEq, Nat.reduceLeDiff, Nat.reduceSub, List.size_toArray]
        refine ITri.seq ?_
        refine ITri.reg pokT ?_; simp -implicitDefEqProofs (disch := first | decide | exact of_eq_true (eq_true rfl) | omega | assumption) only [ ↓vcD, vcE, evs, evP, evB, intsOf, fillC, Value.cells, pt, List.append_nil, List.nil_append, List.cons_append, List.length_cons, List.length_nil, List.filter_nil, List.map_nil, ↓List.getElem?_cons_zero, ↓List.getElem?_cons_succ, List.getElem?_cons_zero, List.getElem?_cons_succ, List.set_cons_zero, List.set_cons_succ, Option.join_some, Option.join_none, Option.map_some, List.all_cons, List.all_nil, Value.oneCell', reduceIte, reduceCtorEq, Nat.reduceEqDiff, Nat.reduceAdd, Nat.reduceMul, Nat.reduceLT, Nat.reduceBEq, Nat.reduceLeDiff, Nat.reduceSub, List.size_toArray]
        refine gen_nn u_sl rfl (by omega) ?_
        try simp -implicitDefEqProofs (disch := first | decide | exact of_eq_true (eq_true rfl) | omega | assumption) only [ ↓vcD, vcE, evs, evP, evB, intsOf, fillC, Value.cells, pt, List.append_nil, List.nil_append, List.cons_append, List.length_cons, List.length_nil, List.filter_nil, List.map_nil, ↓List.getElem?_cons_zero, ↓List.getElem?_cons_succ, List.getElem?_cons_zero, List.getElem?_cons_succ, List.set_cons_zero, List.set_cons_succ, Option.join_some, Option.join_none, Option.map_some, List.all_cons, List.all_nil, Value.oneCell', reduceIte, reduceCtorEq, Nat.reduceEqDiff, Nat.reduceAdd, Nat.reduceMul, Nat.reduceLT, Nat.reduceBEq, Nat.reduceLeDiff, Nat.reduceSub, List.size_toArray]
        refine ITri.cond (v := true) rfl (fun _ => ?_) (fun h => by cases h)
        refine ITri.seq ?_
        refine ITri.reg pokT ?_; simp -implicitDefEqProofs (disch := first | decide | exact of_eq_true (eq_true rfl) | omega | assumption) only [ ↓vcD, vcE, evs, evP, evB, intsOf, fillC, Value.cells, pt, List.append_nil, List.nil_append, List.cons_append, List.length_cons, List.length_nil, List.filter_nil, List.map_nil, ↓List.getElem?_cons_zero, ↓List.getElem?_cons_succ, List.getElem?_cons_zero, List.getElem?_cons_succ, List.set_cons_zero, List.set_cons_succ, Option.join_some, Option.join_none, Option.map_some, List.all_cons, List.all_nil, Value.oneCell', reduceIte, reduceCtorEq, Nat.reduceEqDiff, Nat.reduceAdd, Nat.reduceMul, Nat.reduceLT, Nat.reduceBEq, Nat.reduceLeDiff, Nat.reduceSub, List.size_toArray]
        refine ITri.ret ?_; exact end_own (k := 6) (by omega) (rows_no _) rfl rfl
      · simp only [smV, smO, if_neg hm0]
        rw [Hq_news]
        try simp -implicitDefEqProofs (disch := first | decide | exact of_eq_true (eq_true rfl) | omega | assumption) only [ ↓vcD, vcE, evs, evP, evB, intsOf, fillC, Value.cells, pt, List.append_nil, List.nil_append, List.cons_append, List.length_cons, List.length_nil, List.filter_nil, List.map_nil, ↓List.getElem?_cons_zero, ↓List.getElem?_cons_succ, List.getElem?_cons_zero, List.getElem?_cons_succ, List.set_cons_zero, List.set_cons_succ, Option.join_some, Option.join_none, Option.map_some, List.all_cons, List.all_nil, Value.oneCell', reduceIte, reduceCtorEq, Nat.reduceEqDiff, Nat.reduceAdd, Nat.reduceMul, Nat.reduceLT, Nat.reduceBEq, Nat.reduceLeDiff, Nat.reduceSub, List.size_toArray]
        refine ITri.seq ?_
        refine ITri.reg pokT ?_; simp -implicitDefEqProofs (disch := first | decide | exact of_eq_true (eq_true rfl) | omega | assumption) only [ ↓vcD, vcE, evs, evP, evB, intsOf, fillC, Value.cells, pt, List.append_nil, List.nil_append, List.cons_append, List.length_cons, List.length_nil, List.filter_nil, List.map_nil, ↓List.getElem?_cons_zero, ↓List.getElem?_cons_succ, List.getElem?_cons_zero, List.getElem?_cons_succ, List.set_cons_zero, List.set_cons_succ, Option.join_some, Option.join_none, Option.map_some, List.all_cons, List.all_nil, Value.oneCell', reduceIte, reduceCtorEq, Nat.reduceEqDiff, Nat.reduceAdd, Nat.reduceMul, Nat.reduceLT, Nat.reduceBEq, Nat.reduceLeDiff, Nat.reduceSub, List.size_toArray]
        refine gen_nn u_sl rfl (by omega) ?_
        try simp -implicitDefEqProofs (disch := first | decide | exact of_eq_true (eq_true rfl) | omega | assumption) only [ ↓vcD, vcE, evs, evP, evB, intsOf, fillC, Value.cells, pt, List.append_nil, List.nil_append, List.cons_append, List.length_cons, List.length_nil, List.filter_nil, List.map_nil, ↓List.getElem?_cons_zero, ↓List.getElem?_cons_succ, List.getElem?_cons_zero, List.getElem?_cons_succ, List.set_cons_zero, List.set_cons_succ, Option.join_some, Option.join_none, Option.map_some, List.all_cons, List.all_nil, Value.oneCell', reduceIte, reduceCtorEq, Nat.reduceEqDiff, Nat.reduceAdd, Nat.reduceMul, Nat.reduceLT, Nat.reduceBEq, Nat.reduceLeDiff, Nat.reduceSub, List.size_toArray]
        refine ITri.cond (v := true) rfl (fun _ => ?_) (fun h => by cases h)
        refine ITri.seq ?_
        refine ITri.reg pokT ?_; simp -implicitDefEqProofs (disch := first | decide | exact of_eq_true (eq_true rfl) | omega | assumption) only [ ↓vcD, vcE, evs, evP, evB, intsOf, fillC, Value.cells, pt, List.append_nil, List.nil_append, List.cons_append, List.length_cons, List.length_nil, List.filter_nil, List.map_nil, ↓List.getElem?_cons_zero, ↓List.getElem?_cons_succ, List.getElem?_cons_zero, List.getElem?_cons_succ, List.set_cons_zero, List.set_cons_succ, Option.join_some, Option.join_none, Option.map_some, List.all_cons, List.all_nil, Value.oneCell', reduceIte, reduceCtorEq, Nat.reduceEqDiff, Nat.reduceAdd, Nat.reduceMul, Nat.reduceLT, Nat.reduceBEq, Nat.reduceLeDiff, Nat.reduceSub, List.size_toArray]
        have ek : k + 1 + m = k + (m + 1) := by omega
        have ea : js ++ [f + (j : Int)] ++ r = js ++ ((f + (j : Int)) :: r) := by simp
        simp only [ek, ea]
        refine ITri.ret ?_; exact end_own (k := 7) (by omega) (rows_no _) rfl rfl
end Go.Proofs.Ytlkfcbdbieenhaa
