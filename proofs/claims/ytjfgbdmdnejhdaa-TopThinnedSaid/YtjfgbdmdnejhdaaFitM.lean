/-
  Chapters 8 to 10 at the top: slice.Follow, by names.
-/
import Derived.Test.YtjfgbdmdnejhdaaFitL
set_option linter.unusedSimpArgs false
set_option linter.unusedVariables false
namespace Go.Proofs.Ytjfgbdmdnejhdaa
open Go.RowKit Go.Vm
set_option maxRecDepth 100000

theorem cut_f {c : Wb} {len d0 dd : Int} {W S : List Int} {n : Nat} (V : Vd c len) (C : Co c len d0 W S) (hn : usF c len = n) {h : AH} {k a b za zb : Nat} {oa ob : Bool} (h0 : h.sees 0 = true) (hk : h.get k = some (.cells ⟨[.int .i64 dd, sO a n, sO b n], 1, false⟩)) (ha : h.get a = some (.cells ⟨rows eI W, za, oa⟩)) (hb : h.get b = some (.cells ⟨rows eI S, zb, ob⟩)) :
    Fc Try.prog 44 [sawV c len, .int .i64 d0, fB 48 k] h (.tuple #[ptV h.next (h.next + 1) (SF c len d0 W S n).length n (min c.st len) (restF c len d0 W S n), .int .i64 (laF d0 W n), .int .i64 (dF d0 W n)])
      (h.news [.cells ⟨rows eI (SF c len d0 W S n), 1, true⟩, .cells ⟨rows eI (KF c len d0 W S n), 1, true⟩]) := by
  have F := cut_c c len d0 dd W S n V C hn
  rw [Hq_news] at F
  refine Fc.frameL (Lc := M4 dd W S n) F [(0, 0, false), (k, 0, false), (a, 0, false), (b, 0, false)] rfl (fr4 h0 hk ha hb) ⟨okM_noAddr _ _ _ rfl, trivial, ⟨trivial, trivial, ⟨⟨show 1 < 4 by decide, trivial⟩, trivial⟩⟩, trivial⟩ ⟨⟨⟨show 4 < 6 by decide, trivial⟩, ⟨show 5 < 6 by decide, trivial⟩, trivial, trivial, trivial⟩, trivial, trivial, trivial⟩ (fun o ho => ?_) rfl rfl ?_
  · simp only [List.mem_cons, List.not_mem_nil, or_false] at ho
    rcases ho with rfl | rfl <;> exact okML_noAddr _ _ _ (rows_no _)
  · show h.news [.cells ⟨mwL _ (rows eI _), 1, true⟩, .cells ⟨mwL _ (rows eI _), 1, true⟩] = _
    rw [mwL_noAddr _ _ (rows_no _), mwL_noAddr _ _ (rows_no _)]

/- boule/slice.Follow$1 · slots 4 · names 0:r 1:r · results [2] -/
def ir46_r0 : IC := .reg [⟨some 1, none, false, .box (.t 0)⟩,
  ⟨some 2, none, false, .mv (.k .nilFunc)⟩] (some [1])
def ir46_r1 : IC := .reg [⟨some 3, none, false, .mkf 47 [] [(.t 1)]⟩,
  ⟨some 2, none, false, .mv (.t 3)⟩] (some [2])
def ir46_1 : IC := .seq ir46_r1 .ret
def ir46_2 : IC := .seq ir46_r0 ir46_1
def ir46 : IC := ir46_2
theorem fn46 : FnIs Try.prog 46 ir46 4 [.tmp 2] := ⟨Try.f46, Try.f46.body.getD .skip, Try.func46, by kernel_rfl, by kernel_rfl, by kernel_rfl, by kernel_rfl⟩
/- boule/slice.Follow$1$1 · slots 11 · names 0:n 2:n · results [3] -/
def ir47_r0 : IC := .reg [⟨some 3, none, false, .mv (.k (.bool false))⟩] (some [0, 1])
def ir47_r1 : IC := .reg [⟨some 4, none, false, .mv (.t 0)⟩,
  ⟨some 5, none, false, .fad 0 (.t 1)⟩,
  ⟨some 6, none, false, .ldc (.t 5)⟩,
  ⟨some 7, none, false, .fad 1 (.t 1)⟩,
  ⟨some 8, none, false, .ldc (.t 7)⟩,
  ⟨some 9, none, false, .call (.f 42) [(.t 4), (.t 6), (.t 8)]⟩,
  ⟨some 10, none, false, .not (.t 9)⟩,
  ⟨some 3, none, false, .mv (.t 10)⟩] (some [3])
def ir47_1 : IC := .seq ir47_r1 .ret
def ir47_2 : IC := .seq ir47_r0 ir47_1
def ir47 : IC := ir47_2
theorem fn47 : FnIs Try.prog 47 ir47 11 [.tmp 3] := ⟨Try.f47, Try.f47.body.getD .skip, Try.func47, by kernel_rfl, by kernel_rfl, by kernel_rfl, by kernel_rfl⟩
/- boule/slice.Follow · slots 83 · names 0:w 1:b 2:length 3:c 4:w 5:b 6:length 7:c 11:e 12:s 13:outside 14:p 15:_ 16:behind · results [8, 9, 10] -/
def ir21_r0 : IC := .reg [⟨some 4, none, false, .box (.t 0)⟩,
  ⟨some 5, none, false, .box (.t 1)⟩,
  ⟨some 7, none, false, .box (.t 3)⟩,
  ⟨some 8, none, false, .alloc [(.slice none 0 0), (.slice none 0 0), (.int .i64 0), (.int .i64 0)]⟩,
  ⟨some 9, none, false, .mv (.k (.int .i64 0))⟩,
  ⟨some 10, none, false, .mv (.k (.int .i64 0))⟩] (some [2, 4, 5, 7, 8])
def ir21_r1 : IC := .reg [⟨some 17, none, false, .lda 5 (.t 4)⟩,
  ⟨some 18, none, false, .lda 5 (.t 5)⟩,
  ⟨some 19, none, false, .mv (.t 2)⟩,
  ⟨some 20, none, false, .call (.f 16) [(.t 17), (.t 18), (.t 19)]⟩,
  ⟨some 11, none, false, .mv (.t 20)⟩] (some [2, 4, 5, 7, 8, 11])
def ir21_r2 : IC := .reg [⟨some 21, none, false, .mv (.t 11)⟩,
  ⟨some 22, none, false, .cmp .neq (.t 21) (.k (.int .i64 0))⟩] (some [2, 4, 5, 7, 8, 11, 22])
def ir21_r3 : IC := .reg [⟨some 23, none, false, .bld [(.slice none 0 0), (.slice none 0 0), (.int .i64 0), (.int .i64 0)] []⟩,
  ⟨some 24, none, false, .mv (.t 11)⟩,
  ⟨none, none, false, .st 4 (.t 8) (.t 23)⟩,
  ⟨some 9, none, false, .mv (.k (.int .i64 0))⟩,
  ⟨some 10, none, false, .mv (.t 24)⟩] (some [8, 9, 10])
def ir21_1 : IC := .seq ir21_r3 .ret
def ir21_2 : IC := .cond (.t 22) ir21_1 .skip
def ir21_3 : IC := .seq ir21_r2 ir21_2
def ir21_4 : IC := .seq ir21_r1 ir21_3
def ir21_r4 : IC := .reg [⟨some 25, none, false, .lda 5 (.t 4)⟩,
  ⟨some 26, none, false, .lda 5 (.t 5)⟩,
  ⟨some 27, none, false, .mv (.t 2)⟩,
  ⟨some 28, none, false, .bld [(.int .i64 0), (.int .i64 0), (.int .i64 0), (.int .i64 0), (.int .i64 0), (.int .i64 0), (.int .i64 0), (.int .i64 0), (.int .i64 0), (.int .i64 0), (.int .i64 0)] [(0, 5, (.t 25)), (5, 5, (.t 26)), (10, 1, (.t 27))]⟩,
  ⟨some 12, none, false, .alloc [(.int .i64 0), (.int .i64 0), (.int .i64 0), (.int .i64 0), (.int .i64 0), (.int .i64 0), (.int .i64 0), (.int .i64 0), (.int .i64 0), (.int .i64 0), (.int .i64 0)]⟩,
  ⟨none, none, false, .st 11 (.t 12) (.t 28)⟩] (some [4, 5, 7, 8, 12])
def ir21_r5 : IC := .reg [⟨some 13, none, false, .mv (.f 46)⟩] (some [4, 5, 7, 8, 12, 13])
def ir21_r6 : IC := .draw [(⟨some 30, none, false, .fad 1 (.t 7)⟩, false, 0, 0),
  (⟨some 31, none, false, .ldc (.t 30)⟩, false, 1, 1),
  (⟨some 32, none, false, .len (.t 31)⟩, false, 3, 1),
  (⟨some 33, none, false, .lda 11 (.t 12)⟩, false, 0, 4),
  (⟨some 34, none, false, .call (.f 20) [(.t 33)]⟩, false, 8, 4),
  (⟨some 35, none, false, .cmp .neq (.t 32) (.t 34)⟩, false, 31, 0),
  (⟨some 36, none, false, .mv (.t 35)⟩, false, 63, 0),
  (⟨some 37, some (36, false), false, .fad 2 (.t 7)⟩, false, 127, 0),
  (⟨some 38, some (36, false), false, .ldc (.t 37)⟩, false, 255, 1),
  (⟨some 39, some (36, false), false, .len (.t 38)⟩, false, 511, 1),
  (⟨some 40, some (36, false), false, .lda 11 (.t 12)⟩, false, 127, 512),
  (⟨some 41, some (36, false), false, .call (.f 20) [(.t 40)]⟩, false, 1151, 512),
  (⟨some 42, some (36, false), false, .cmp .neq (.t 39) (.t 41)⟩, false, 4095, 0),
  (⟨some 43, none, false, .pick (.t 36) (.k (.bool true)) (.t 42)⟩, false, 8191, 0),
  (⟨some 29, none, false, .mv (.t 43)⟩, false, 16383, 0)] (some [4, 5, 7, 8, 12, 13, 29])
def ir21_r7 : IC := .reg [⟨some 44, none, false, .bld [(.slice none 0 0), (.slice none 0 0), (.int .i64 0), (.int .i64 0)] []⟩,
  ⟨none, none, false, .st 4 (.t 8) (.t 44)⟩,
  ⟨some 9, none, false, .mv (.k (.int .i64 0))⟩,
  ⟨some 10, none, false, .mv (.k (.int .i64 2))⟩] (some [8, 9, 10])
def ir21_5 : IC := .seq ir21_r7 .ret
def ir21_r8 : IC := .draw [(⟨some 46, none, false, .mv (.t 13)⟩, false, 0, 0),
  (⟨some 47, none, false, .fad 0 (.t 4)⟩, false, 0, 0),
  (⟨some 48, none, false, .lda 2 (.t 47)⟩, false, 2, 1),
  (⟨some 49, none, false, .call (.t 46) [(.t 48)]⟩, false, 7, 1),
  (⟨some 50, none, false, .fad 0 (.t 7)⟩, false, 0, 0),
  (⟨some 51, none, false, .ldc (.t 50)⟩, false, 16, 8),
  (⟨some 52, none, false, .call (.t 49) [(.t 51)]⟩, true, 63, 0),
  (⟨some 53, none, false, .mv (.t 52)⟩, false, 127, 0),
  (⟨some 54, some (53, false), false, .fad 1 (.t 7)⟩, false, 255, 0),
  (⟨some 55, some (53, false), false, .ldc (.t 54)⟩, false, 511, 1),
  (⟨some 56, some (53, false), false, .mv (.t 13)⟩, false, 255, 0),
  (⟨some 57, some (53, false), false, .fad 2 (.t 4)⟩, false, 255, 0),
  (⟨some 58, some (53, false), false, .lda 2 (.t 57)⟩, false, 2303, 512),
  (⟨some 59, some (53, false), false, .call (.t 56) [(.t 58)]⟩, false, 7423, 512),
  (⟨some 60, some (53, false), false, .call (.f 36) [(.t 55), (.t 59)]⟩, true, 16383, 0),
  (⟨some 61, none, false, .pick (.t 53) (.k (.bool true)) (.t 60)⟩, false, 32767, 0),
  (⟨some 62, none, false, .mv (.t 61)⟩, false, 65535, 0),
  (⟨some 63, some (62, false), false, .fad 2 (.t 7)⟩, false, 131071, 0),
  (⟨some 64, some (62, false), false, .ldc (.t 63)⟩, false, 262143, 1),
  (⟨some 65, some (62, false), false, .mv (.t 13)⟩, false, 131071, 0),
  (⟨some 66, some (62, false), false, .fad 3 (.t 5)⟩, false, 131071, 0),
  (⟨some 67, some (62, false), false, .lda 2 (.t 66)⟩, false, 1179647, 262144),
  (⟨some 68, some (62, false), false, .call (.t 65) [(.t 67)]⟩, false, 3801087, 262144),
  (⟨some 69, some (62, false), false, .call (.f 36) [(.t 64), (.t 68)]⟩, true, 8388607, 0),
  (⟨some 70, none, false, .pick (.t 62) (.k (.bool true)) (.t 69)⟩, false, 16777215, 0),
  (⟨some 45, none, false, .mv (.t 70)⟩, false, 33554431, 0)] (some [7, 8, 12, 45])
def ir21_r9 : IC := .reg [⟨some 71, none, false, .bld [(.slice none 0 0), (.slice none 0 0), (.int .i64 0), (.int .i64 0)] []⟩,
  ⟨none, none, false, .st 4 (.t 8) (.t 71)⟩,
  ⟨some 9, none, false, .mv (.k (.int .i64 0))⟩,
  ⟨some 10, none, false, .mv (.k (.int .i64 30))⟩] (some [8, 9, 10])
def ir21_6 : IC := .seq ir21_r9 .ret
def ir21_7 : IC := .cond (.t 45) ir21_6 .skip
def ir21_8 : IC := .seq ir21_r8 ir21_7
def ir21_9 : IC := .cond (.t 29) ir21_5 ir21_8
def ir21_10 : IC := .seq ir21_r6 ir21_9
def ir21_11 : IC := .block 0 ir21_10
def ir21_r10 : IC := .reg [⟨some 73, none, false, .lda 11 (.t 12)⟩,
  ⟨some 74, none, false, .fad 0 (.t 7)⟩,
  ⟨some 75, none, false, .ldc (.t 74)⟩,
  ⟨some 76, none, false, .mkf 48 [] [(.t 7)]⟩,
  ⟨some 77, none, false, .call (.f 44) [(.t 73), (.t 75), (.t 76)]⟩,
  ⟨some 72, none, false, .mv (.t 77)⟩,
  ⟨some 78, none, false, .ext (.t 72) 0⟩,
  ⟨some 79, none, false, .ext (.t 72) 1⟩,
  ⟨some 80, none, false, .ext (.t 72) 2⟩,
  ⟨some 14, none, false, .alloc [(.slice none 0 0), (.slice none 0 0), (.int .i64 0), (.int .i64 0)]⟩,
  ⟨none, none, false, .st 4 (.t 14) (.t 78)⟩,
  ⟨some 15, none, false, .mv (.t 79)⟩,
  ⟨some 16, none, false, .mv (.t 80)⟩] (some [8, 14, 16])
def ir21_r11 : IC := .reg [⟨some 81, none, false, .lda 4 (.t 14)⟩,
  ⟨some 82, none, false, .mv (.t 16)⟩,
  ⟨none, none, false, .st 4 (.t 8) (.t 81)⟩,
  ⟨some 9, none, false, .mv (.t 82)⟩,
  ⟨some 10, none, false, .mv (.k (.int .i64 0))⟩] (some [8, 9, 10])
def ir21_12 : IC := .seq ir21_r11 .ret
def ir21_13 : IC := .seq ir21_r10 ir21_12
def ir21_14 : IC := .seq ir21_11 ir21_13
def ir21_15 : IC := .seq ir21_r5 ir21_14
def ir21_16 : IC := .seq ir21_r4 ir21_15
def ir21_17 : IC := .seq ir21_4 ir21_16
def ir21_18 : IC := .seq ir21_r0 ir21_17
def ir21 : IC := ir21_18
theorem fn21 : FnIs Try.prog 21 ir21 83 [.cell 8 43, .tmp 9, .tmp 10] := ⟨Try.f21, Try.f21.body.getD .skip, Try.func21, by kernel_rfl, by kernel_rfl, by kernel_rfl, by kernel_rfl⟩
theorem outside_f (lo hi : Int) {h : AH} : Fc Try.prog 46 [.agg #[.int .i64 lo, .int .i64 hi]] h (fB 47 h.next) (h.new (.cells ⟨[.int .i64 lo, .int .i64 hi], 1, false⟩)) := by
  refine Fc.introX fn46 (by simp) (fun hw => news_grow hw [_]) ?_; simp only [argF]
  refine ITri.seq ?_
  refine ITri.reg pok ?_; simp -implicitDefEqProofs (disch := first | decide | exact of_eq_true (eq_true rfl) | omega | assumption) only [ ↓vcD, vcE, ↓vcG, vcF, evs, evP, evB, intsOf, fillC, Value.cells, pt, Value.oneCell', reduceIte, reduceCtorEq, Nat.reduceEqDiff, Nat.reduceAdd, Nat.reduceMul, Nat.reduceLT, Nat.reduceBEq, Nat.reduceLeDiff, Nat.reduceSub]
  refine ITri.seq ?_
  refine ITri.reg pok ?_; simp -implicitDefEqProofs (disch := first | decide | exact of_eq_true (eq_true rfl) | omega | assumption) only [ ↓vcD, vcE, ↓vcG, vcF, evs, evP, evB, intsOf, fillC, Value.cells, pt, Value.oneCell', reduceIte, reduceCtorEq, Nat.reduceEqDiff, Nat.reduceAdd, Nat.reduceMul, Nat.reduceLT, Nat.reduceBEq, Nat.reduceLeDiff, Nat.reduceSub]
  refine ITri.ret ?_
  exact EndX.mk (by simp) rfl rfl rfl
theorem out_c (lo hi x : Int) : Fc Try.prog 47 [.int .i64 x, pt 1] (Hp 2 [none, some (.cells ⟨[.int .i64 lo, .int .i64 hi], 0, false⟩)]) (.bool (!inB x lo hi)) (Hp 2 [none, some (.cells ⟨[.int .i64 lo, .int .i64 hi], 0, false⟩)]) := by
  refine Fc.intro0 fn47 (by simp) rfl rfl ?_; simp only [argF]
  refine ITri.seq ?_
  refine ITri.reg pok ?_; simp -implicitDefEqProofs (disch := first | decide | exact of_eq_true (eq_true rfl) | omega | assumption) only [ ↓vcD, vcE, ↓vcG, vcF, evs, evP, evB, intsOf, fillC, Value.cells, pt, Value.oneCell', reduceIte, reduceCtorEq, Nat.reduceEqDiff, Nat.reduceAdd, Nat.reduceMul, Nat.reduceLT, Nat.reduceBEq, Nat.reduceLeDiff, Nat.reduceSub]
  refine ITri.seq ?_
  refine ITri.reg pok ?_; simp -implicitDefEqProofs (disch := first | decide | exact of_eq_true (eq_true rfl) | omega | assumption) only [ ↓vcD, vcE, ↓vcG, vcF, evs, evP, evB, intsOf, fillC, Value.cells, pt, Value.oneCell', reduceIte, reduceCtorEq, Nat.reduceEqDiff, Nat.reduceAdd, Nat.reduceMul, Nat.reduceLT, Nat.reduceBEq, Nat.reduceLeDiff, Nat.reduceSub]
  refine ⟨_, _, within_f _ _ _ (sees0 rfl (of_decide_eq_true rfl)), ?_⟩
  try simp -implicitDefEqProofs (disch := first | decide | exact of_eq_true (eq_true rfl) | omega | assumption) only [ ↓vcD, vcE, ↓vcG, vcF, evs, evP, evB, intsOf, fillC, Value.cells, pt, Value.oneCell', reduceIte, reduceCtorEq, Nat.reduceEqDiff, Nat.reduceAdd, Nat.reduceMul, Nat.reduceLT, Nat.reduceBEq, Nat.reduceLeDiff, Nat.reduceSub]
  refine ITri.ret ?_; exact EndR.plain (by simp) (by rfl) (by rfl) (by rfl)
theorem out_f {lo hi : Int} (x : Int) {h : AH} {k z : Nat} {op : Bool} (h0 : h.sees 0 = true) (hk : h.get k = some (.cells ⟨[.int .i64 lo, .int .i64 hi], z, op⟩)) : Fc Try.prog 47 [.int .i64 x, pt k] h (.bool (!inB x lo hi)) h :=
  Fc.frameL (Lc := [none, some (.cells ⟨[.int .i64 lo, .int .i64 hi], 0, false⟩)]) (os := []) (out_c lo hi x) [(0, 0, false), (k, 0, false)] rfl ⟨fr_none h0, fr_rd (p := (k, 0, false)) (n := 2) rfl ⟨get_sees hk, _, hk, ⟨[], by simp⟩, fun _ => Nat.zero_le _⟩ rfl, trivial⟩ ⟨trivial, ⟨show 1 < 2 by decide, trivial⟩, trivial⟩ (okM_noAddr _ _ _ rfl) (fun o ho => by cases ho) rfl (mw_noAddr _ _ rfl) rfl
theorem in_t {x a b : Int} (h : a ≤ x ∧ x ≤ b) : inB x a b = true := by
  unfold inB
  rw [decide_eq_true h.1, decide_eq_true h.2]
  rfl
theorem any_in {xs : List Int} {a b : Int} (h : ∀ x ∈ xs, a ≤ x ∧ x ≤ b) : xs.any (fun x => !inB x a b) = false := by
  rw [List.any_eq_false]
  intro x hx
  rw [in_t (h x hx)]
  simp
theorem wr11a (z0 z1 z2 z3 z4 z5 z6 z7 z8 z9 z10 a0 a1 a2 a3 a4 : Value) : writeAt [z0, z1, z2, z3, z4, z5, z6, z7, z8, z9, z10] 0 [a0, a1, a2, a3, a4] = [a0, a1, a2, a3, a4, z5, z6, z7, z8, z9, z10] := rfl
theorem wr11b (z0 z1 z2 z3 z4 z5 z6 z7 z8 z9 z10 a0 a1 a2 a3 a4 : Value) : writeAt [z0, z1, z2, z3, z4, z5, z6, z7, z8, z9, z10] 5 [a0, a1, a2, a3, a4] = [z0, z1, z2, z3, z4, a0, a1, a2, a3, a4, z10] := rfl
theorem wr11c (z0 z1 z2 z3 z4 z5 z6 z7 z8 z9 z10 a0 a1 a2 a3 a4 a5 a6 a7 a8 a9 a10 : Value) : writeAt [z0, z1, z2, z3, z4, z5, z6, z7, z8, z9, z10] 0 [a0, a1, a2, a3, a4, a5, a6, a7, a8, a9, a10] = [a0, a1, a2, a3, a4, a5, a6, a7, a8, a9, a10] := rfl
theorem wr44 (z0 z1 z2 z3 a0 a1 a2 a3 : Value) : writeAt [z0, z1, z2, z3] 0 [a0, a1, a2, a3] = [a0, a1, a2, a3] := rfl
theorem follow_c (c : Wb) (len d0 : Int) (W S : List Int) (n : Nat) (V : Vd c len) (hV : ckE c len = 0) (C : Co c len d0 W S) (hn : usF c len = n) :
    Fc Try.prog 21 [wirV c, webV c, .int .i64 len, .agg #[.int .i64 d0, sO 1 n, sO 2 n]] (Hp 3 (PM W S)) (.tuple #[ptV 3 4 (SF c len d0 W S n).length n (min c.st len) (restF c len d0 W S n), .int .i64 (dF d0 W n), .int .i64 0])
      ((Hp 3 (PM W S)).news [.cells ⟨rows eI (SF c len d0 W S n), 1, true⟩, .cells ⟨rows eI (KF c len d0 W S n), 1, true⟩]) := by
  have hWl := C.wl
  have hSl := C.sl
  have hle := usF_le V
  have := V.g2
  have i1 := in_t ⟨C.d1, C.d2⟩
  have i2 := any_in C.w
  have i3 := any_in C.s
  refine Fc.introR fn21 (by simp) rfl rfl ?_; simp only [argF]
  refine ITri.seq ?_
  refine ITri.reg pok ?_; simp -implicitDefEqProofs (disch := first | decide | exact of_eq_true (eq_true rfl) | omega | assumption) only [ ↓vcD, vcE, ↓vcG, vcF, evs, evP, evB, intsOf, fillC, Value.cells, pt, Value.oneCell', reduceIte, reduceCtorEq, Nat.reduceEqDiff, Nat.reduceAdd, Nat.reduceMul, Nat.reduceLT, Nat.reduceBEq, Nat.reduceLeDiff, Nat.reduceSub] -- r0
  refine ITri.seq ?_
  refine ITri.seq ?_
  refine ITri.reg pok ?_; simp -implicitDefEqProofs (disch := first | decide | exact of_eq_true (eq_true rfl) | omega | assumption) only [ ↓vcD, vcE, ↓vcG, vcF, evs, evP, evB, intsOf, fillC, Value.cells, pt, Value.oneCell', reduceIte, reduceCtorEq, Nat.reduceEqDiff, Nat.reduceAdd, Nat.reduceMul, Nat.reduceLT, Nat.reduceBEq, Nat.reduceLeDiff, Nat.reduceSub] -- r1
  refine ⟨_, _, check_f c len (sees0 rfl (of_decide_eq_true rfl)), ?_⟩
  simp -implicitDefEqProofs (disch := first | decide | exact of_eq_true (eq_true rfl) | omega | assumption) only [hV,  ↓vcD, vcE, ↓vcG, vcF, evs, evP, evB, intsOf, fillC, Value.cells, pt, Value.oneCell', reduceIte, reduceCtorEq, Nat.reduceEqDiff, Nat.reduceAdd, Nat.reduceMul, Nat.reduceLT, Nat.reduceBEq, Nat.reduceLeDiff, Nat.reduceSub]
  refine ITri.seq ?_
  refine ITri.reg pok ?_; simp -implicitDefEqProofs (disch := first | decide | exact of_eq_true (eq_true rfl) | omega | assumption) only [ ↓vcD, vcE, ↓vcG, vcF, evs, evP, evB, intsOf, fillC, Value.cells, pt, Value.oneCell', reduceIte, reduceCtorEq, Nat.reduceEqDiff, Nat.reduceAdd, Nat.reduceMul, Nat.reduceLT, Nat.reduceBEq, Nat.reduceLeDiff, Nat.reduceSub] -- r2
  refine ITri.cond (v := false) rfl (fun h => by cases h) (fun _ => ?_); refine ITri.skip ?_; simp only [SeqQ_normal, BlkQ_normal]
  refine ITri.seq ?_
  refine ITri.reg pok ?_; simp -implicitDefEqProofs (disch := first | decide | exact of_eq_true (eq_true rfl) | omega | assumption) only [wr11a, wr11b, wr11c,  ↓vcD, vcE, ↓vcG, vcF, evs, evP, evB, intsOf, fillC, Value.cells, pt, Value.oneCell', reduceIte, reduceCtorEq, Nat.reduceEqDiff, Nat.reduceAdd, Nat.reduceMul, Nat.reduceLT, Nat.reduceBEq, Nat.reduceLeDiff, Nat.reduceSub] -- r4
  refine ITri.seq ?_
  refine ITri.reg pok ?_; simp -implicitDefEqProofs (disch := first | decide | exact of_eq_true (eq_true rfl) | omega | assumption) only [ ↓vcD, vcE, ↓vcG, vcF, evs, evP, evB, intsOf, fillC, Value.cells, pt, Value.oneCell', reduceIte, reduceCtorEq, Nat.reduceEqDiff, Nat.reduceAdd, Nat.reduceMul, Nat.reduceLT, Nat.reduceBEq, Nat.reduceLeDiff, Nat.reduceSub] -- r5
  refine ITri.seq ?_
  refine ITri.block ?_ -- 0
  refine ITri.seq ?_
  refine ITri.draw pok ?_; simp -implicitDefEqProofs (disch := first | decide | exact of_eq_true (eq_true rfl) | omega | assumption) only [ ↓vcD, vcE, ↓vcG, vcF, evs, evP, evB, intsOf, fillC, Value.cells, pt, Value.oneCell', reduceIte, reduceCtorEq, Nat.reduceEqDiff, Nat.reduceAdd, Nat.reduceMul, Nat.reduceLT, Nat.reduceBEq, Nat.reduceLeDiff, Nat.reduceSub] -- r6 slice.go:150 CALLS .call F46 [%33] .call F46 [%40] GUARDS [36] live [4, 5, 7, 8, 12, 13, 29]
  refine ⟨_, _, used_f c len V (sees0 rfl (of_decide_eq_true rfl)), ?_⟩
  simp -implicitDefEqProofs (disch := first | decide | exact of_eq_true (eq_true rfl) | omega | assumption) only [hn, decide_true,  ↓vcD, vcE, ↓vcG, vcF, evs, evP, evB, intsOf, fillC, Value.cells, pt, Value.oneCell', reduceIte, reduceCtorEq, Nat.reduceEqDiff, Nat.reduceAdd, Nat.reduceMul, Nat.reduceLT, Nat.reduceBEq, Nat.reduceLeDiff, Nat.reduceSub]
  refine ⟨_, _, used_f c len V (sees0 rfl (of_decide_eq_true rfl)), ?_⟩
  simp -implicitDefEqProofs (disch := first | decide | exact of_eq_true (eq_true rfl) | omega | assumption) only [hn, decide_true,  ↓vcD, vcE, ↓vcG, vcF, evs, evP, evB, intsOf, fillC, Value.cells, pt, Value.oneCell', reduceIte, reduceCtorEq, Nat.reduceEqDiff, Nat.reduceAdd, Nat.reduceMul, Nat.reduceLT, Nat.reduceBEq, Nat.reduceLeDiff, Nat.reduceSub]
  refine ITri.cond (v := false) rfl (fun h => by cases h) (fun _ => ?_)
  refine ITri.seq ?_
  refine ITri.draw pok ?_; simp -implicitDefEqProofs (disch := first | decide | exact of_eq_true (eq_true rfl) | omega | assumption) only [ ↓vcD, vcE, ↓vcG, vcF, evs, evP, evB, intsOf, fillC, Value.cells, pt, Value.oneCell', reduceIte, reduceCtorEq, Nat.reduceEqDiff, Nat.reduceAdd, Nat.reduceMul, Nat.reduceLT, Nat.reduceBEq, Nat.reduceLeDiff, Nat.reduceSub] -- r8
  refine ⟨_, _, outside_f _ _, ?_⟩
  try simp -implicitDefEqProofs (disch := first | decide | exact of_eq_true (eq_true rfl) | omega | assumption) only [ ↓vcD, vcE, ↓vcG, vcF, evs, evP, evB, intsOf, fillC, Value.cells, pt, Value.oneCell', reduceIte, reduceCtorEq, Nat.reduceEqDiff, Nat.reduceAdd, Nat.reduceMul, Nat.reduceLT, Nat.reduceBEq, Nat.reduceLeDiff, Nat.reduceSub]
  refine ⟨_, _, out_f _ (sees0 rfl (of_decide_eq_true rfl)) (get_hq rfl rfl), ?_⟩
  simp -implicitDefEqProofs (disch := first | decide | exact of_eq_true (eq_true rfl) | omega | assumption) only [i1,  ↓vcD, vcE, ↓vcG, vcF, evs, evP, evB, intsOf, fillC, Value.cells, pt, Value.oneCell', reduceIte, reduceCtorEq, Nat.reduceEqDiff, Nat.reduceAdd, Nat.reduceMul, Nat.reduceLT, Nat.reduceBEq, Nat.reduceLeDiff, Nat.reduceSub]
  refine ⟨_, _, outside_f _ _, ?_⟩
  try simp -implicitDefEqProofs (disch := first | decide | exact of_eq_true (eq_true rfl) | omega | assumption) only [ ↓vcD, vcE, ↓vcG, vcF, evs, evP, evB, intsOf, fillC, Value.cells, pt, Value.oneCell', reduceIte, reduceCtorEq, Nat.reduceEqDiff, Nat.reduceAdd, Nat.reduceMul, Nat.reduceLT, Nat.reduceBEq, Nat.reduceLeDiff, Nat.reduceSub]
  refine ⟨_, _, containsB_f 47 _ [.int .i64 c.wl, .int .i64 c.wh] rfl W n (fun x => out_f x (sees0 rfl (of_decide_eq_true rfl)) (get_hq rfl rfl)) (by omega) (by omega) (sees0 rfl (of_decide_eq_true rfl)) (get_hq rfl rfl) (Rd.hq rfl rfl), ?_⟩
  simp -implicitDefEqProofs (disch := first | decide | exact of_eq_true (eq_true rfl) | omega | assumption) only [i2,  ↓vcD, vcE, ↓vcG, vcF, evs, evP, evB, intsOf, fillC, Value.cells, pt, Value.oneCell', reduceIte, reduceCtorEq, Nat.reduceEqDiff, Nat.reduceAdd, Nat.reduceMul, Nat.reduceLT, Nat.reduceBEq, Nat.reduceLeDiff, Nat.reduceSub]
  refine ⟨_, _, outside_f _ _, ?_⟩
  try simp -implicitDefEqProofs (disch := first | decide | exact of_eq_true (eq_true rfl) | omega | assumption) only [ ↓vcD, vcE, ↓vcG, vcF, evs, evP, evB, intsOf, fillC, Value.cells, pt, Value.oneCell', reduceIte, reduceCtorEq, Nat.reduceEqDiff, Nat.reduceAdd, Nat.reduceMul, Nat.reduceLT, Nat.reduceBEq, Nat.reduceLeDiff, Nat.reduceSub]
  refine ⟨_, _, containsB_f 47 _ [.int .i64 c.sl, .int .i64 c.sh] rfl S n (fun x => out_f x (sees0 rfl (of_decide_eq_true rfl)) (get_hq rfl rfl)) (by omega) (by omega) (sees0 rfl (of_decide_eq_true rfl)) (get_hq rfl rfl) (Rd.hq rfl rfl), ?_⟩
  simp -implicitDefEqProofs (disch := first | decide | exact of_eq_true (eq_true rfl) | omega | assumption) only [i3,  ↓vcD, vcE, ↓vcG, vcF, evs, evP, evB, intsOf, fillC, Value.cells, pt, Value.oneCell', reduceIte, reduceCtorEq, Nat.reduceEqDiff, Nat.reduceAdd, Nat.reduceMul, Nat.reduceLT, Nat.reduceBEq, Nat.reduceLeDiff, Nat.reduceSub]
  refine ITri.cond (v := false) rfl (fun h => by cases h) (fun _ => ?_); refine ITri.skip ?_; simp only [SeqQ_normal, BlkQ_normal]
  refine ITri.seq ?_
  refine ITri.reg pok ?_; simp -implicitDefEqProofs (disch := first | decide | exact of_eq_true (eq_true rfl) | omega | assumption) only [ ↓vcD, vcE, ↓vcG, vcF, evs, evP, evB, intsOf, fillC, Value.cells, pt, Value.oneCell', reduceIte, reduceCtorEq, Nat.reduceEqDiff, Nat.reduceAdd, Nat.reduceMul, Nat.reduceLT, Nat.reduceBEq, Nat.reduceLeDiff, Nat.reduceSub] -- r10
  refine ⟨_, _, cut_f V C hn (sees0 rfl (of_decide_eq_true rfl)) (get_hq rfl rfl) (get_hq rfl rfl) (get_hq rfl rfl), ?_⟩
  simp -implicitDefEqProofs (disch := first | decide | exact of_eq_true (eq_true rfl) | omega | assumption) only [news_c, news_n, wr44,  ↓vcD, vcE, ↓vcG, vcF, evs, evP, evB, intsOf, fillC, Value.cells, pt, Value.oneCell', reduceIte, reduceCtorEq, Nat.reduceEqDiff, Nat.reduceAdd, Nat.reduceMul, Nat.reduceLT, Nat.reduceBEq, Nat.reduceLeDiff, Nat.reduceSub]
  refine ITri.seq ?_
  refine ITri.reg pok ?_; simp -implicitDefEqProofs (disch := first | decide | exact of_eq_true (eq_true rfl) | omega | assumption) only [wr44,  ↓vcD, vcE, ↓vcG, vcF, evs, evP, evB, intsOf, fillC, Value.cells, pt, Value.oneCell', reduceIte, reduceCtorEq, Nat.reduceEqDiff, Nat.reduceAdd, Nat.reduceMul, Nat.reduceLT, Nat.reduceBEq, Nat.reduceLeDiff, Nat.reduceSub] -- r11
  refine ITri.ret ?_
  exact end_cut (k := 11) (k2 := 12) (by decide) (by decide) (by decide) (rows_no (f := eI) _) (rows_no (f := eI) _) rfl rfl (resF_agg 4 rfl (by kernel_rfl) (by simp -implicitDefEqProofs (disch := first | decide | exact of_eq_true (eq_true rfl) | omega | assumption) only [↓vcD, vcE, ↓vcG, vcF, evs, evP, evB, intsOf, fillC, Value.cells, pt, Value.oneCell', reduceIte, reduceCtorEq, Nat.reduceEqDiff, Nat.reduceAdd, Nat.reduceMul, Nat.reduceLT, Nat.reduceBEq, Nat.reduceLeDiff, Nat.reduceSub]) (resF_tmp rfl (resF_tmp rfl resF_nil)))
theorem follow_f {c : Wb} {len d0 : Int} {W S : List Int} {n : Nat} (V : Vd c len) (hV : ckE c len = 0) (C : Co c len d0 W S) (hn : usF c len = n) {h : AH} {a b za zb : Nat} {oa ob : Bool} (h0 : h.sees 0 = true) (ha : h.get a = some (.cells ⟨rows eI W, za, oa⟩)) (hb : h.get b = some (.cells ⟨rows eI S, zb, ob⟩)) :
    Fc Try.prog 21 [wirV c, webV c, .int .i64 len, .agg #[.int .i64 d0, sO a n, sO b n]] h (.tuple #[ptV h.next (h.next + 1) (SF c len d0 W S n).length n (min c.st len) (restF c len d0 W S n), .int .i64 (dF d0 W n), .int .i64 0])
      (h.news [.cells ⟨rows eI (SF c len d0 W S n), 1, true⟩, .cells ⟨rows eI (KF c len d0 W S n), 1, true⟩]) := by
  have F := follow_c c len d0 W S n V hV C hn
  rw [Hq_news] at F
  refine Fc.frameL (Lc := PM W S) F [(0, 0, false), (a, 0, false), (b, 0, false)] rfl ⟨fr_none h0, fr_rd (p := (a, 0, false)) (n := n) rfl ⟨get_sees ha, _, ha, ⟨[], by simp⟩, fun _ => Nat.zero_le _⟩ (rows_no _), fr_rd (p := (b, 0, false)) (n := n) rfl ⟨get_sees hb, _, hb, ⟨[], by simp⟩, fun _ => Nat.zero_le _⟩ (rows_no _), trivial⟩ ⟨okM_noAddr _ _ _ rfl, okM_noAddr _ _ _ rfl, trivial, ⟨trivial, ⟨show 1 < 3 by decide, trivial⟩, ⟨show 2 < 3 by decide, trivial⟩, trivial⟩, trivial⟩ ⟨⟨⟨show 3 < 5 by decide, trivial⟩, ⟨show 4 < 5 by decide, trivial⟩, trivial, trivial, trivial⟩, trivial, trivial, trivial⟩ (fun o ho => ?_) rfl rfl ?_
  · simp only [List.mem_cons, List.not_mem_nil, or_false] at ho
    rcases ho with rfl | rfl <;> exact okML_noAddr _ _ _ (rows_no _)
  · show h.news [.cells ⟨mwL _ (rows eI _), 1, true⟩, .cells ⟨mwL _ (rows eI _), 1, true⟩] = _
    rw [mwL_noAddr _ _ (rows_no _), mwL_noAddr _ _ (rows_no _)]
end Go.Proofs.Ytjfgbdmdnejhdaa
