/-
  Chapters 8 to 10 at the top: a course of a cut, by names.
-/
import Derived.Test.YtjfgbdmdnejhdaaFitI
set_option linter.unusedSimpArgs false
set_option linter.unusedVariables false
namespace Go.Proofs.Ytjfgbdmdnejhdaa
open Go.RowKit Go.Vm
set_option maxRecDepth 100000

abbrev cuB (dd : Int) (a b n : Nat) : Option AObj := some (.cells ⟨[.int .i64 dd, sO a n, sO b n], 1, false⟩)
abbrev M4 (dd : Int) (W S : List Int) (n : Nat) : List (Option AObj) := [none, cuB dd 2 3 n, some (.cells ⟨rows eI W, 0, false⟩), some (.cells ⟨rows eI S, 0, false⟩)]
/-- A box with two slices in it, and the rows, framed. -/
theorem fr4 {dd : Int} {W S : List Int} {n : Nat} {h : AH} {k a b za zb : Nat} {oa ob : Bool} (h0 : h.sees 0 = true) (hk : h.get k = some (.cells ⟨[.int .i64 dd, sO a n, sO b n], 1, false⟩)) (ha : h.get a = some (.cells ⟨rows eI W, za, oa⟩)) (hb : h.get b = some (.cells ⟨rows eI S, zb, ob⟩)) :
    frOK h (psL [(0, 0, false), (k, 0, false), (a, 0, false), (b, 0, false)]) 4 0 (M4 dd W S n) := by
  refine ⟨fr_none h0, ⟨get_sees hk, fun ob e => ?_⟩, fr_rd (p := (a, 0, false)) (n := n) rfl ⟨get_sees ha, _, ha, ⟨[], by simp⟩, fun _ => Nat.zero_le _⟩ (rows_no _), fr_rd (p := (b, 0, false)) (n := n) rfl ⟨get_sees hb, _, hb, ⟨[], by simp⟩, fun _ => Nat.zero_le _⟩ (rows_no _), trivial⟩
  cases e
  refine .inr ⟨(fun e => by cases e), _, hk, ?_⟩
  exact ⟨⟨[], rfl⟩, (fun e => by cases e), ⟨trivial, ⟨show 2 < 4 by decide, trivial⟩, ⟨show 3 < 4 by decide, trivial⟩, trivial⟩, (fun e => by cases e), fun _ => Nat.one_ne_zero⟩

/- boule/slice.Follow$2 · slots 15 · names 0:i 2:i · results [3] -/
def ir48_r0 : IC := .reg [⟨some 3, none, false, .alloc [(.int .i64 0), (.int .i64 0)]⟩] (some [0, 1, 3])
def ir48_r1 : IC := .draw [(⟨some 4, none, false, .fad 1 (.t 1)⟩, false, 0, 0),
  (⟨some 5, none, false, .ldc (.t 4)⟩, false, 1, 1),
  (⟨some 6, none, false, .mv (.t 0)⟩, false, 0, 0),
  (⟨some 7, none, false, .iad 1 (.t 5) (.t 6)⟩, false, 7, 0),
  (⟨some 8, none, false, .ldc (.t 7)⟩, false, 15, 1),
  (⟨some 9, none, false, .fad 2 (.t 1)⟩, false, 0, 0),
  (⟨some 10, none, false, .ldc (.t 9)⟩, false, 32, 16),
  (⟨some 11, none, false, .mv (.t 0)⟩, false, 0, 0),
  (⟨some 12, none, false, .iad 1 (.t 10) (.t 11)⟩, false, 224, 0),
  (⟨some 13, none, false, .ldc (.t 12)⟩, false, 480, 16),
  (⟨some 14, none, false, .bld [(.int .i64 0), (.int .i64 0)] [(0, 1, (.t 8)), (1, 1, (.t 13))]⟩, false, 1023, 0),
  (⟨none, none, false, .st 2 (.t 3) (.t 14)⟩, true, 2047, 0)] (some [3])
def ir48_1 : IC := .seq ir48_r1 .ret
def ir48_2 : IC := .seq ir48_r0 ir48_1
def ir48 : IC := ir48_2
theorem fn48 : FnIs Try.prog 48 ir48 15 [.cell 3 107] := ⟨Try.f48, Try.f48.body.getD .skip, Try.func48, by kernel_rfl, by kernel_rfl, by kernel_rfl, by kernel_rfl⟩
/- (boule/slice.saw).course · slots 8 · names 0:s 1:diameter 2:choose 3:s 4:diameter 5:choose · results [6] -/
def ir61_r0 : IC := .reg [⟨some 3, none, false, .box (.t 0)⟩,
  ⟨some 4, none, false, .box (.t 1)⟩,
  ⟨some 5, none, false, .box (.t 2)⟩,
  ⟨some 6, none, false, .mv (.k .nilFunc)⟩] (some [3, 4, 5])
def ir61_r1 : IC := .reg [⟨some 7, none, false, .mkf 68 [] [(.t 3), (.t 5), (.t 4)]⟩,
  ⟨some 6, none, false, .mv (.t 7)⟩] (some [6])
def ir61_1 : IC := .seq ir61_r1 .ret
def ir61_2 : IC := .seq ir61_r0 ir61_1
def ir61 : IC := ir61_2
theorem fn61 : FnIs Try.prog 61 ir61 8 [.tmp 6] := ⟨Try.f61, Try.f61.body.getD .skip, Try.func61, by kernel_rfl, by kernel_rfl, by kernel_rfl, by kernel_rfl⟩
theorem choice_c (dd : Int) (W S : List Int) (n i : Nat) (hW : W.length = n) (hS : S.length = n) (hi : i < n) (hn : n ≤ 1000000) :
    Fc Try.prog 48 [.int .i64 i, pt 1] (Hp 4 (M4 dd W S n)) (.agg #[.int .i64 (nth W i), .int .i64 (nth S i)]) (Hp 4 (M4 dd W S n)) := by
  refine Fc.intro0 fn48 (by simp) rfl rfl ?_; simp only [argF]
  have g1 := getI (xs := W) (i := i) (by omega)
  have g2 := getI (xs := S) (i := i) (by omega)
  refine ITri.seq ?_
  refine ITri.reg pok ?_; simp -implicitDefEqProofs (disch := first | decide | exact of_eq_true (eq_true rfl) | omega | assumption) only [ ↓vcD, vcE, ↓vcG, vcF, evs, evP, evB, intsOf, fillC, Value.cells, pt, Value.oneCell', reduceIte, reduceCtorEq, Nat.reduceEqDiff, Nat.reduceAdd, Nat.reduceMul, Nat.reduceLT, Nat.reduceBEq, Nat.reduceLeDiff, Nat.reduceSub]
  refine ITri.seq ?_
  refine ITri.draw pok ?_; simp -implicitDefEqProofs (disch := first | decide | exact of_eq_true (eq_true rfl) | omega | assumption) only [g1, g2,  ↓vcD, vcE, ↓vcG, vcF, evs, evP, evB, intsOf, fillC, Value.cells, pt, Value.oneCell', reduceIte, reduceCtorEq, Nat.reduceEqDiff, Nat.reduceAdd, Nat.reduceMul, Nat.reduceLT, Nat.reduceBEq, Nat.reduceLeDiff, Nat.reduceSub]
  refine ITri.ret ?_; exact EndR.plain (vs := [.agg ⟨[.int .i64 (nth W i), .int .i64 (nth S i)]⟩]) (by simp) (resF_agg 2 rfl (by kernel_rfl) (by simp -implicitDefEqProofs (disch := first | decide | exact of_eq_true (eq_true rfl) | omega | assumption) only [↓vcD, vcE, ↓vcG, vcF, evs, evP, evB, intsOf, fillC, Value.cells, pt, Value.oneCell', reduceIte, reduceCtorEq, Nat.reduceEqDiff, Nat.reduceAdd, Nat.reduceMul, Nat.reduceLT, Nat.reduceBEq, Nat.reduceLeDiff, Nat.reduceSub]) resF_nil) (by rfl) (by rfl)
theorem choice_f {dd : Int} {W S : List Int} {n i : Nat} (hW : W.length = n) (hS : S.length = n) (hi : i < n) (hn : n ≤ 1000000) {h : AH} {k a b za zb : Nat} {oa ob : Bool} (h0 : h.sees 0 = true) (hk : h.get k = some (.cells ⟨[.int .i64 dd, sO a n, sO b n], 1, false⟩)) (ha : h.get a = some (.cells ⟨rows eI W, za, oa⟩)) (hb : h.get b = some (.cells ⟨rows eI S, zb, ob⟩)) :
    Fc Try.prog 48 [.int .i64 i, pt k] h (.agg #[.int .i64 (nth W i), .int .i64 (nth S i)]) h :=
  Fc.frameL (Lc := M4 dd W S n) (os := []) (choice_c dd W S n i hW hS hi hn) [(0, 0, false), (k, 0, false), (a, 0, false), (b, 0, false)] rfl (fr4 h0 hk ha hb) ⟨trivial, ⟨show 1 < 4 by decide, trivial⟩, trivial⟩ (okM_noAddr _ _ _ rfl) (fun o ho => by cases ho) rfl (mw_noAddr _ _ rfl) rfl
theorem course_f (c : Wb) (len d0 : Int) (k : Nat) {h : AH} : Fc Try.prog 61 [sawV c len, .int .i64 d0, fB 48 k] h (.func (.func 68) #[] #[pt h.next, pt (h.next + 2), pt (h.next + 1)])
    (h.news [.cells ⟨[.int .i64 c.dl, .int .i64 c.dh, .int .i64 c.wl, .int .i64 c.wh, .int .i64 c.le, .int .i64 c.p, .int .i64 c.g, .int .i64 c.st, .int .i64 c.sl, .int .i64 c.sh, .int .i64 len], 1, false⟩, .cells ⟨[.int .i64 d0], 1, false⟩, .cells ⟨[fB 48 k], 1, false⟩]) := by
  refine Fc.introX fn61 (by simp) (fun hw => news_grow hw _) ?_; simp only [argF]
  refine ITri.seq ?_
  refine ITri.reg pok ?_; simp -implicitDefEqProofs (disch := first | decide | exact of_eq_true (eq_true rfl) | omega | assumption) only [ ↓vcD, vcE, ↓vcG, vcF, evs, evP, evB, intsOf, fillC, Value.cells, pt, Value.oneCell', reduceIte, reduceCtorEq, Nat.reduceEqDiff, Nat.reduceAdd, Nat.reduceMul, Nat.reduceLT, Nat.reduceBEq, Nat.reduceLeDiff, Nat.reduceSub]
  refine ITri.seq ?_
  refine ITri.reg pok ?_; simp -implicitDefEqProofs (disch := first | decide | exact of_eq_true (eq_true rfl) | omega | assumption) only [ ↓vcD, vcE, ↓vcG, vcF, evs, evP, evB, intsOf, fillC, Value.cells, pt, Value.oneCell', reduceIte, reduceCtorEq, Nat.reduceEqDiff, Nat.reduceAdd, Nat.reduceMul, Nat.reduceLT, Nat.reduceBEq, Nat.reduceLeDiff, Nat.reduceSub]
  refine ITri.ret ?_
  exact EndX.mk (by simp) rfl rfl rfl

/- (boule/slice.saw).cut · slots 74 · names 0:s 1:diameter 2:choose 3:s 4:diameter 5:choose 6:p 7:last 8:behind 9:m 10:rest 11:d 12:cut · results [6, 7, 8] -/
def ir44_r0 : IC := .reg [⟨some 3, none, false, .box (.t 0)⟩,
  ⟨some 6, none, false, .alloc [(.slice none 0 0), (.slice none 0 0), (.int .i64 0), (.int .i64 0)]⟩,
  ⟨some 7, none, false, .alloc [(.int .i64 0)]⟩,
  ⟨some 8, none, false, .alloc [(.int .i64 0)]⟩] (some [1, 2, 3, 6, 7, 8])
def ir44_r1 : IC := .reg [⟨some 13, none, false, .lda 11 (.t 3)⟩,
  ⟨some 14, none, false, .call (.f 20) [(.t 13)]⟩,
  ⟨some 9, none, false, .alloc [(.int .i64 0)]⟩,
  ⟨none, none, false, .st 1 (.t 9) (.t 14)⟩] (some [1, 2, 3, 6, 7, 8, 9])
def ir44_r2 : IC := .reg [⟨some 15, none, false, .fad 5 (.t 3)⟩,
  ⟨some 16, none, false, .fad 2 (.t 15)⟩,
  ⟨some 17, none, false, .ldc (.t 16)⟩,
  ⟨some 18, none, false, .fad 10 (.t 3)⟩,
  ⟨some 19, none, false, .ldc (.t 18)⟩,
  ⟨some 20, none, false, .mm true [(.t 17), (.t 19)]⟩,
  ⟨some 21, none, false, .fad 2 (.t 6)⟩,
  ⟨none, none, false, .st 1 (.t 21) (.t 20)⟩] (some [1, 2, 3, 6, 7, 8, 9])
def ir44_r3 : IC := .reg [⟨some 22, none, false, .fad 10 (.t 3)⟩,
  ⟨some 23, none, false, .ldc (.t 22)⟩,
  ⟨some 24, none, false, .fad 2 (.t 6)⟩,
  ⟨some 25, none, false, .ldc (.t 24)⟩,
  ⟨some 26, none, false, .ar .sub (.t 23) (.t 25)⟩,
  ⟨some 10, none, false, .alloc [(.int .i64 0)]⟩,
  ⟨none, none, false, .st 1 (.t 10) (.t 26)⟩] (some [1, 2, 3, 6, 7, 8, 9, 10])
def ir44_r4 : IC := .reg [⟨some 27, none, false, .mv (.t 1)⟩,
  ⟨none, none, false, .st 1 (.t 7) (.t 27)⟩] (some [1, 2, 3, 6, 7, 8, 9, 10])
def ir44_r5 : IC := .reg [⟨some 28, none, false, .lda 11 (.t 3)⟩,
  ⟨some 29, none, false, .mv (.t 1)⟩,
  ⟨some 30, none, false, .mv (.t 2)⟩,
  ⟨some 31, none, false, .call (.f 61) [(.t 28), (.t 29), (.t 30)]⟩] (some [3, 6, 7, 8, 9, 10, 31])
def ir44_r6 : IC := .reg [⟨some 11, none, false, .mv (.t 32)⟩] (some [3, 6, 7, 8, 9, 10, 11, 33])
def ir44_r7 : IC := .reg [⟨some 12, none, false, .mv (.t 33)⟩] (some [3, 6, 7, 8, 9, 10, 11, 12])
def ir44_1 : IC := .seq ir44_r6 ir44_r7
def ir44_r8 : IC := .reg [⟨some 34, none, false, .mv (.t 11)⟩,
  ⟨none, none, false, .st 1 (.t 8) (.t 34)⟩] (some [3, 6, 7, 9, 10, 11, 12])
def ir44_r9 : IC := .reg [⟨some 35, none, false, .mv (.t 12)⟩,
  ⟨some 36, none, false, .cmp .lss (.t 35) (.k (.int .i64 0))⟩] (some [3, 6, 7, 9, 10, 11, 12, 36])
def ir44_2 : IC := .cond (.t 36) (.exit 0) .skip
def ir44_3 : IC := .seq ir44_r9 ir44_2
def ir44_4 : IC := .seq ir44_r8 ir44_3
def ir44_r10 : IC := .reg [⟨some 37, none, false, .mv (.t 11)⟩,
  ⟨none, none, false, .st 1 (.t 7) (.t 37)⟩] (some [3, 6, 9, 10, 12])
def ir44_r11 : IC := .reg [⟨some 38, none, false, .fad 1 (.t 6)⟩,
  ⟨some 39, none, false, .ldc (.t 38)⟩,
  ⟨some 40, none, false, .mv (.t 12)⟩,
  ⟨some 41, none, false, .bsl 1 1 [(.int .i64 0)] [(0, (.t 40))]⟩,
  ⟨some 42, none, false, .app 1 8 (.t 39) (.t 41)⟩,
  ⟨some 43, none, false, .fad 1 (.t 6)⟩,
  ⟨none, none, false, .st 1 (.t 43) (.t 42)⟩] (some [3, 6, 9, 10, 12])
def ir44_r12 : IC := .reg [⟨some 44, none, false, .ldc (.t 10)⟩,
  ⟨some 45, none, false, .mv (.t 12)⟩,
  ⟨some 46, none, false, .ar .sub (.t 44) (.t 45)⟩,
  ⟨none, none, false, .st 1 (.t 10) (.t 46)⟩] (some [3, 6, 9, 10, 12])
def ir44_r13 : IC := .reg [⟨some 47, none, false, .fad 1 (.t 6)⟩,
  ⟨some 48, none, false, .ldc (.t 47)⟩,
  ⟨some 49, none, false, .len (.t 48)⟩,
  ⟨some 50, none, false, .ldc (.t 9)⟩,
  ⟨some 51, none, false, .cmp .lss (.t 49) (.t 50)⟩] (some [3, 6, 10, 12, 51])
def ir44_r14 : IC := .reg [⟨some 52, none, false, .fad 0 (.t 6)⟩,
  ⟨some 53, none, false, .ldc (.t 52)⟩,
  ⟨some 54, none, false, .fad 5 (.t 3)⟩,
  ⟨some 55, none, false, .fad 0 (.t 54)⟩,
  ⟨some 56, none, false, .ldc (.t 55)⟩,
  ⟨some 57, none, false, .mv (.t 12)⟩,
  ⟨some 58, none, false, .ar .sub (.t 56) (.t 57)⟩,
  ⟨some 59, none, false, .bsl 1 1 [(.int .i64 0)] [(0, (.t 58))]⟩,
  ⟨some 60, none, false, .app 1 8 (.t 53) (.t 59)⟩,
  ⟨some 61, none, false, .fad 0 (.t 6)⟩,
  ⟨none, none, false, .st 1 (.t 61) (.t 60)⟩] (some [3, 10, 12])
def ir44_r15 : IC := .reg [⟨some 62, none, false, .ldc (.t 10)⟩,
  ⟨some 63, none, false, .fad 5 (.t 3)⟩,
  ⟨some 64, none, false, .fad 0 (.t 63)⟩,
  ⟨some 65, none, false, .ldc (.t 64)⟩,
  ⟨some 66, none, false, .mv (.t 12)⟩,
  ⟨some 67, none, false, .ar .sub (.t 65) (.t 66)⟩,
  ⟨some 68, none, false, .ar .sub (.t 62) (.t 67)⟩,
  ⟨none, none, false, .st 1 (.t 10) (.t 68)⟩] (some [])
def ir44_5 : IC := .seq ir44_r14 ir44_r15
def ir44_6 : IC := .cond (.t 51) ir44_5 .skip
def ir44_7 : IC := .seq ir44_r13 ir44_6
def ir44_8 : IC := .seq ir44_r12 ir44_7
def ir44_9 : IC := .seq ir44_r11 ir44_8
def ir44_10 : IC := .seq ir44_r10 ir44_9
def ir44_11 : IC := .seq ir44_4 ir44_10
def ir44_12 : IC := .block 1 ir44_11
def ir44_13 : IC := .rf (.t 31) [32, 33] ir44_1 ir44_12 (some [6, 7, 8, 10])
def ir44_14 : IC := .block 0 ir44_13
def ir44_15 : IC := .seq ir44_r5 ir44_14
def ir44_r16 : IC := .reg [⟨some 69, none, false, .ldc (.t 10)⟩,
  ⟨some 70, none, false, .fad 3 (.t 6)⟩,
  ⟨none, none, false, .st 1 (.t 70) (.t 69)⟩] (some [6, 7, 8])
def ir44_r17 : IC := .draw [(⟨some 71, none, false, .lda 4 (.t 6)⟩, false, 0, 1),
  (⟨some 72, none, false, .ldc (.t 7)⟩, false, 0, 1),
  (⟨some 73, none, false, .ldc (.t 8)⟩, false, 0, 1),
  (⟨none, none, false, .st 4 (.t 6) (.t 71)⟩, true, 1, 7592747083),
  (⟨none, none, false, .st 1 (.t 7) (.t 72)⟩, true, 11, 8267),
  (⟨none, none, false, .st 1 (.t 8) (.t 73)⟩, true, 31, 0)] (some [6, 7, 8])
def ir44_16 : IC := .seq ir44_r17 .ret
def ir44_17 : IC := .seq ir44_r16 ir44_16
def ir44_18 : IC := .seq ir44_15 ir44_17
def ir44_19 : IC := .seq ir44_r4 ir44_18
def ir44_20 : IC := .seq ir44_r3 ir44_19
def ir44_21 : IC := .seq ir44_r2 ir44_20
def ir44_22 : IC := .seq ir44_r1 ir44_21
def ir44_23 : IC := .seq ir44_r0 ir44_22
def ir44 : IC := ir44_23
theorem fn44 : FnIs Try.prog 44 ir44 74 [.cell 6 43, .cell 7 3, .cell 8 3] := ⟨Try.f44, Try.f44.body.getD .skip, Try.func44, by kernel_rfl, by kernel_rfl, by kernel_rfl, by kernel_rfl⟩
/- a course's memory -/
abbrev sawO (c : Wb) (len : Int) : Option AObj := some (.cells ⟨[.int .i64 c.dl, .int .i64 c.dh, .int .i64 c.wl, .int .i64 c.wh, .int .i64 c.le, .int .i64 c.p, .int .i64 c.g, .int .i64 c.st, .int .i64 c.sl, .int .i64 c.sh, .int .i64 len], 1, false⟩)
abbrev inB1 (x : Int) : Option AObj := some (.cells ⟨[.int .i64 x], 1, false⟩)
abbrev rowO (xs : List Int) : Option AObj := some (.cells ⟨rows eI xs, 1, true⟩)
abbrev cF0 (m : Int) : Fr := [(3, pt 4), (6, pt 5), (7, pt 6), (8, pt 7), (9, pt 8), (10, pt 9), (31, .func (.func 68) #[] #[pt 10, pt 12, pt 11])]
abbrev cLo (m : Int) (px : Array Tmp) (cx cy : Code) (st : LoopState) (pd : Option Code) : Option AObj := some (.loop ⟨st, pd, trOf (cF0 m), 74, px, cx, cy, 13⟩)
/-- The first fifteen names: the box of the parts, the last and next diameter, the rest, the diameter, the loop. -/
abbrev cH (c : Wb) (len dd : Int) (W S : List Int) (n : Nat) (m : Int) (s k : Value) (top la be re di : Int) (lo : Option AObj) : List (Option AObj) :=
  [none, cuB dd 2 3 n, some (.cells ⟨rows eI W, 0, false⟩), some (.cells ⟨rows eI S, 0, false⟩), sawO c len, some (.cells ⟨[s, k, .int .i64 top, .int .i64 0], 1, false⟩), inB1 la, inB1 be, inB1 m, inB1 re, sawO c len, inB1 di, some (.cells ⟨[fB 48 1], 1, false⟩), DT, lo]
section
variable (c : Wb) (len d0 dd : Int) (W S : List Int) (n : Nat)
abbrev laF (j : Nat) : Int := if j = 0 then d0 else dF d0 W (j - 1)
abbrev beF (j : Nat) : Int := if j = 0 then 0 else dF d0 W (j - 1)
/-- A round. -/
theorem cut_yield1 {px : Array Tmp} {cx cy : Code} (hpx : px.toList = [32, 33]) (hcx : rC Try.prog 74 cx = some ir44_1.er) (hcy : rC Try.prog 74 cy = some ir44_12.er) (V : Vd c len) (C : Co c len d0 W S) (j : Nat) (hj : j < usF c len) (x : Option AObj) (la be : Int) :
    Yl Try.prog 14 [.int .i64 (dF d0 W j), .int .i64 (kfF c len d0 W S j)]
      (Hp 4 (cH c len dd W S n (usF c len) (sO 15 (SF c len d0 W S j).length) (sO 16 j) (min c.st len) la be (restF c len d0 W S j) (dF d0 W j) (cLo (usF c len) px cx cy .ready none) ++ [rowO (SF c len d0 W S j), rowO (KF c len d0 W S j), x]))
      (.bool true)
      (Hp 4 (cH c len dd W S n (usF c len) (if j + 1 < usF c len then sO 21 (SF c len d0 W S (j + 1)).length else sO 15 (SF c len d0 W S (j + 1)).length) (sO 19 (j + 1)) (min c.st len) (dF d0 W j) (dF d0 W j) (restF c len d0 W S (j + 1)) (dF d0 W j) (cLo (usF c len) px cx cy .ready none) ++ (if j + 1 < usF c len then [none, none, x, some (.cells ⟨[.int .i64 (kfF c len d0 W S j)], 1, false⟩), rowO (KF c len d0 W S (j + 1)), some (.cells ⟨[.int .i64 (c.p - kfF c len d0 W S j)], 1, false⟩), rowO (SF c len d0 W S (j + 1))] else [rowO (SF c len d0 W S (j + 1)), none, x, some (.cells ⟨[.int .i64 (kfF c len d0 W S j)], 1, false⟩), rowO (KF c len d0 W S (j + 1))]))) := by
  have hb := kfF_bd V C hj
  have hr := restF_bd V C (show j ≤ usF c len by omega)
  have hr2 := restF_bd V C (show j + 1 ≤ usF c len by omega)
  have hm := usF_le V
  have := V.p2
  have := V.g2
  have hK : KF c len d0 W S (j + 1) = KF c len d0 W S j ++ [kfF c len d0 W S j] := rfl
  have hKl : (rows eI (KF c len d0 W S j)).length = j * 1 := by rw [rows_len (f := eI), KF_len]
  have hS : SF c len d0 W S (j + 1) = SF c len d0 W S j ++ (if j + 1 < usF c len then [c.p - kfF c len d0 W S j] else []) := rfl
  have hSl : (rows eI (SF c len d0 W S j)).length = (SF c len d0 W S j).length * 1 := by rw [rows_len (f := eI)]
  have hSn : (SF c len d0 W S j).length ≤ 2000 := by rw [SF_len _ _ _ _ _ j (by omega)]; omega
  have hR : restF c len d0 W S (j + 1) = restF c len d0 W S j - kfF c len d0 W S j - (if j + 1 < usF c len then c.p - kfF c len d0 W S j else 0) := rfl
  have k1 : rows eI (KF c len d0 W S j) ++ [Value.int .i64 (kfF c len d0 W S j)] = rows eI (KF c len d0 W S (j + 1)) := by
    rw [hK, rows_append]; rfl
  generalize kfF c len d0 W S j = kf at *
  generalize restF c len d0 W S (j + 1) = re2 at *
  generalize restF c len d0 W S j = re at *
  generalize dF d0 W j = di at *
  generalize hMM : usF c len = M at *
  have g0 : ¬ kf < 0 := by omega
  refine Yl.introI (dn := 13) (lf := cF0 M) (pd := none) (by rw [Hp_get]; rfl) hpx hcx hcy rfl (by show 4 ≤ 14; omega) rfl (fun _ => grow_hq (by split <;> simp) (by simp)) ?_
  refine ITri.seq ?_
  refine ITri.reg pok ?_; simp -implicitDefEqProofs (disch := first | decide | exact of_eq_true (eq_true rfl) | omega | assumption) only [ ↓vcD, vcE, ↓vcG, vcF, evs, evP, evB, intsOf, fillC, Value.cells, pt, Value.oneCell', reduceIte, reduceCtorEq, Nat.reduceEqDiff, Nat.reduceAdd, Nat.reduceMul, Nat.reduceLT, Nat.reduceBEq, Nat.reduceLeDiff, Nat.reduceSub] -- r6
  refine ITri.reg pok ?_; simp -implicitDefEqProofs (disch := first | decide | exact of_eq_true (eq_true rfl) | omega | assumption) only [ ↓vcD, vcE, ↓vcG, vcF, evs, evP, evB, intsOf, fillC, Value.cells, pt, Value.oneCell', reduceIte, reduceCtorEq, Nat.reduceEqDiff, Nat.reduceAdd, Nat.reduceMul, Nat.reduceLT, Nat.reduceBEq, Nat.reduceLeDiff, Nat.reduceSub] -- r7
  refine ⟨rfl, ⟨.ready, none, trOf (cF0 M), 74, px, cx, cy, 13⟩, (by rw [Hp_get]; rfl), rfl, ?_⟩
  rw [Hq_put _ _ (by simp)]
  simp only [List.cons_append, List.nil_append, List.set_cons_succ, List.set_cons_zero]
  refine ITri.block ?_
  refine ITri.seq ?_
  refine ITri.seq ?_
  refine ITri.reg pok ?_; simp -implicitDefEqProofs (disch := first | decide | exact of_eq_true (eq_true rfl) | omega | assumption) only [ ↓vcD, vcE, ↓vcG, vcF, evs, evP, evB, intsOf, fillC, Value.cells, pt, Value.oneCell', reduceIte, reduceCtorEq, Nat.reduceEqDiff, Nat.reduceAdd, Nat.reduceMul, Nat.reduceLT, Nat.reduceBEq, Nat.reduceLeDiff, Nat.reduceSub] -- r8
  refine ITri.seq ?_
  refine ITri.reg pok ?_; simp -implicitDefEqProofs (disch := first | decide | exact of_eq_true (eq_true rfl) | omega | assumption) only [g0, decide_false,  ↓vcD, vcE, ↓vcG, vcF, evs, evP, evB, intsOf, fillC, Value.cells, pt, Value.oneCell', reduceIte, reduceCtorEq, Nat.reduceEqDiff, Nat.reduceAdd, Nat.reduceMul, Nat.reduceLT, Nat.reduceBEq, Nat.reduceLeDiff, Nat.reduceSub] -- r9
  refine ITri.cond (v := false) rfl (fun h => by cases h) (fun _ => ?_); refine ITri.skip ?_; simp only [SeqQ_normal, BlkQ_normal]
  refine ITri.seq ?_
  refine ITri.reg pok ?_; simp -implicitDefEqProofs (disch := first | decide | exact of_eq_true (eq_true rfl) | omega | assumption) only [ ↓vcD, vcE, ↓vcG, vcF, evs, evP, evB, intsOf, fillC, Value.cells, pt, Value.oneCell', reduceIte, reduceCtorEq, Nat.reduceEqDiff, Nat.reduceAdd, Nat.reduceMul, Nat.reduceLT, Nat.reduceBEq, Nat.reduceLeDiff, Nat.reduceSub] -- r10
  refine ITri.seq ?_
  refine ITri.reg pok ?_; simp -implicitDefEqProofs (disch := first | decide | exact of_eq_true (eq_true rfl) | omega | assumption) only [hKl,  ↓vcD, vcE, ↓vcG, vcF, evs, evP, evB, intsOf, fillC, Value.cells, pt, Value.oneCell', reduceIte, reduceCtorEq, Nat.reduceEqDiff, Nat.reduceAdd, Nat.reduceMul, Nat.reduceLT, Nat.reduceBEq, Nat.reduceLeDiff, Nat.reduceSub] -- r11
  rw [k1]
  refine ITri.seq ?_
  by_cases hlt : j + 1 < M
  · have g1 : ((j + 1 : Nat) : Int) < M := by omega
    rw [if_pos hlt] at hR hS
    have k2 : rows eI (SF c len d0 W S j) ++ [Value.int .i64 (c.p - kf)] = rows eI (SF c len d0 W S (j + 1)) := by
      rw [hS, rows_append]; rfl
    have k3 : (SF c len d0 W S j).length + 1 = (SF c len d0 W S (j + 1)).length := by rw [hS]; simp
    have hR2 : re - kf - (c.p - kf) = re2 := hR.symm
    simp only [hlt, if_true]
    refine ITri.reg pok ?_; simp -implicitDefEqProofs (disch := first | decide | exact of_eq_true (eq_true rfl) | omega | assumption) only [ ↓vcD, vcE, ↓vcG, vcF, evs, evP, evB, intsOf, fillC, Value.cells, pt, Value.oneCell', reduceIte, reduceCtorEq, Nat.reduceEqDiff, Nat.reduceAdd, Nat.reduceMul, Nat.reduceLT, Nat.reduceBEq, Nat.reduceLeDiff, Nat.reduceSub] -- r12
    refine ITri.seq ?_
    refine ITri.reg pok ?_; simp -implicitDefEqProofs (disch := first | decide | exact of_eq_true (eq_true rfl) | omega | assumption) only [g1, decide_true,  ↓vcD, vcE, ↓vcG, vcF, evs, evP, evB, intsOf, fillC, Value.cells, pt, Value.oneCell', reduceIte, reduceCtorEq, Nat.reduceEqDiff, Nat.reduceAdd, Nat.reduceMul, Nat.reduceLT, Nat.reduceBEq, Nat.reduceLeDiff, Nat.reduceSub] -- r13
    refine ITri.cond (v := true) rfl (fun _ => ?_) (fun h => by cases h)
    refine ITri.seq ?_
    refine ITri.reg pok ?_; simp -implicitDefEqProofs (disch := first | decide | exact of_eq_true (eq_true rfl) | omega | assumption) only [hSl,  ↓vcD, vcE, ↓vcG, vcF, evs, evP, evB, intsOf, fillC, Value.cells, pt, Value.oneCell', reduceIte, reduceCtorEq, Nat.reduceEqDiff, Nat.reduceAdd, Nat.reduceMul, Nat.reduceLT, Nat.reduceBEq, Nat.reduceLeDiff, Nat.reduceSub] -- r14
    rw [k2, k3]
    refine ITri.reg pok ?_; simp -implicitDefEqProofs (disch := first | decide | exact of_eq_true (eq_true rfl) | omega | assumption) only [hR2,  ↓vcD, vcE, ↓vcG, vcF, evs, evP, evB, intsOf, fillC, Value.cells, pt, Value.oneCell', reduceIte, reduceCtorEq, Nat.reduceEqDiff, Nat.reduceAdd, Nat.reduceMul, Nat.reduceLT, Nat.reduceBEq, Nat.reduceLeDiff, Nat.reduceSub] -- r15
    refine ⟨_, (by rw [Hp_get]; rfl), rfl, ?_⟩
    rw [Hq_put _ _ (by simp)]
    rfl
  · have g1 : ¬ ((j + 1 : Nat) : Int) < M := by omega
    rw [if_neg hlt] at hR hS
    rw [List.append_nil] at hS
    have hR2 : re - kf = re2 := by omega
    simp only [hlt, if_false]
    rw [hS]
    refine ITri.reg pok ?_; simp -implicitDefEqProofs (disch := first | decide | exact of_eq_true (eq_true rfl) | omega | assumption) only [hR2,  ↓vcD, vcE, ↓vcG, vcF, evs, evP, evB, intsOf, fillC, Value.cells, pt, Value.oneCell', reduceIte, reduceCtorEq, Nat.reduceEqDiff, Nat.reduceAdd, Nat.reduceMul, Nat.reduceLT, Nat.reduceBEq, Nat.reduceLeDiff, Nat.reduceSub] -- r12
    refine ITri.seq ?_
    refine ITri.reg pok ?_; simp -implicitDefEqProofs (disch := first | decide | exact of_eq_true (eq_true rfl) | omega | assumption) only [g1, decide_false,  ↓vcD, vcE, ↓vcG, vcF, evs, evP, evB, intsOf, fillC, Value.cells, pt, Value.oneCell', reduceIte, reduceCtorEq, Nat.reduceEqDiff, Nat.reduceAdd, Nat.reduceMul, Nat.reduceLT, Nat.reduceBEq, Nat.reduceLeDiff, Nat.reduceSub] -- r13
    refine ITri.cond (v := false) rfl (fun h => by cases h) (fun _ => ?_); refine ITri.skip ?_; simp only [SeqQ_normal, BlkQ_normal]
    refine ⟨_, (by rw [Hp_get]; rfl), rfl, ?_⟩
    rw [Hq_put _ _ (by simp)]
    rfl
/-- The last round: only the diameter. -/
theorem cut_yield2 {px : Array Tmp} {cx cy : Code} (hpx : px.toList = [32, 33]) (hcx : rC Try.prog 74 cx = some ir44_1.er) (hcy : rC Try.prog 74 cy = some ir44_12.er) (s k : Value) (m top la be re di : Int) (x y : Option AObj) :
    Yl Try.prog 14 [.int .i64 di, .int .i64 (-1)]
      (Hp 4 (cH c len dd W S n m s k top la be re di (cLo m px cx cy .ready none) ++ [x, y])) (.bool false)
      (Hp 4 (cH c len dd W S n m s k top la di re di (cLo m px cx cy .done (some (.exit 0))) ++ [x, y])) := by
  refine Yl.introI (dn := 13) (lf := cF0 m) (pd := none) (by rw [Hp_get]; rfl) hpx hcx hcy rfl (by show 4 ≤ 14; omega) rfl (fun _ => grow_hq (by simp) (by simp)) ?_
  refine ITri.seq ?_
  refine ITri.reg pok ?_; simp -implicitDefEqProofs (disch := first | decide | exact of_eq_true (eq_true rfl) | omega | assumption) only [ ↓vcD, vcE, ↓vcG, vcF, evs, evP, evB, intsOf, fillC, Value.cells, pt, Value.oneCell', reduceIte, reduceCtorEq, Nat.reduceEqDiff, Nat.reduceAdd, Nat.reduceMul, Nat.reduceLT, Nat.reduceBEq, Nat.reduceLeDiff, Nat.reduceSub] -- r6
  refine ITri.reg pok ?_; simp -implicitDefEqProofs (disch := first | decide | exact of_eq_true (eq_true rfl) | omega | assumption) only [ ↓vcD, vcE, ↓vcG, vcF, evs, evP, evB, intsOf, fillC, Value.cells, pt, Value.oneCell', reduceIte, reduceCtorEq, Nat.reduceEqDiff, Nat.reduceAdd, Nat.reduceMul, Nat.reduceLT, Nat.reduceBEq, Nat.reduceLeDiff, Nat.reduceSub] -- r7
  refine ⟨rfl, ⟨.ready, none, trOf (cF0 m), 74, px, cx, cy, 13⟩, (by rw [Hp_get]; rfl), rfl, ?_⟩
  rw [Hq_put _ _ (by simp)]
  simp only [List.cons_append, List.nil_append, List.set_cons_succ, List.set_cons_zero]
  refine ITri.block ?_
  refine ITri.seq ?_
  refine ITri.seq ?_
  refine ITri.reg pok ?_; simp -implicitDefEqProofs (disch := first | decide | exact of_eq_true (eq_true rfl) | omega | assumption) only [ ↓vcD, vcE, ↓vcG, vcF, evs, evP, evB, intsOf, fillC, Value.cells, pt, Value.oneCell', reduceIte, reduceCtorEq, Nat.reduceEqDiff, Nat.reduceAdd, Nat.reduceMul, Nat.reduceLT, Nat.reduceBEq, Nat.reduceLeDiff, Nat.reduceSub] -- r8
  refine ITri.seq ?_
  refine ITri.reg pok ?_; simp -implicitDefEqProofs (disch := first | decide | exact of_eq_true (eq_true rfl) | omega | assumption) only [Int.reduceLT, decide_true,  ↓vcD, vcE, ↓vcG, vcF, evs, evP, evB, intsOf, fillC, Value.cells, pt, Value.oneCell', reduceIte, reduceCtorEq, Nat.reduceEqDiff, Nat.reduceAdd, Nat.reduceMul, Nat.reduceLT, Nat.reduceBEq, Nat.reduceLeDiff, Nat.reduceSub] -- r9
  refine ITri.cond (v := true) rfl (fun _ => ?_) (fun h => by cases h)
  refine ITri.exit ?_; try simp -implicitDefEqProofs (disch := first | decide | exact of_eq_true (eq_true rfl) | omega | assumption) only [ ↓vcD, vcE, ↓vcG, vcF, evs, evP, evB, intsOf, fillC, Value.cells, pt, Value.oneCell', reduceIte, reduceCtorEq, Nat.reduceEqDiff, Nat.reduceAdd, Nat.reduceMul, Nat.reduceLT, Nat.reduceBEq, Nat.reduceLeDiff, Nat.reduceSub]
  refine ⟨_, (by rw [Hp_get]; rfl), rfl, ?_⟩
  rw [Hq_put _ _ (by simp)]
  rfl
end
end Go.Proofs.Ytjfgbdmdnejhdaa
