/-
  Chapters 8 to 10 at the top: a true course followed, by names.
-/
import Derived.Test.YtjfgbdmdnejhdaaFitM
set_option linter.unusedSimpArgs false
set_option linter.unusedVariables false
namespace Go.Vm
theorem end_cutB {P : Program} {rs : List ResultVar} {l : Fr} {L : List (Option AObj)} {k k2 n m b sz sz2 : Nat} {x y : Int} {z : Bool} {cs ds : List Value} (hk : b ≤ k) (hk2 : b ≤ k2) (hne : k ≠ k2) (hno : noAddrL cs = true) (hno2 : noAddrL ds = true) (hL : L[k]? = some (some (.cells ⟨cs, sz, true⟩))) (hL2 : L[k2]? = some (some (.cells ⟨ds, sz2, true⟩)))
    (hr : resF P l (Hp b L) rs = some [.agg ⟨[.slice (some ⟨k, 0, none⟩) n openB, .slice (some ⟨k2, 0, none⟩) m openB, .int .i64 x, .int .i64 y]⟩, .bool z]) :
    EndR P rs b [.cells ⟨cs, sz, true⟩, .cells ⟨ds, sz2, true⟩] (.tuple #[.agg #[.slice (some ⟨b, 0, none⟩) n openB, .slice (some ⟨b + 1, 0, none⟩) m openB, .int .i64 x, .int .i64 y], .bool z]) .ret l [] (Hp b L) := by
  refine ⟨by simp, rfl, _, [k, k2], [], hr, rfl, by simp [hne], by simp [hk, hk2], (fun p hp => by cases hp), ?_, ?_, fun i o2 h => .inr ?_⟩
  · show Value.tuple #[.agg #[_, _, _, _], _] = .tuple ⟨[.agg ⟨[mvS .same ⟨(fun k' => if k' < b then k' else [k, k2].getD (k' - b) 0) b, 0, none⟩ n openB, mvS .same ⟨(fun k' => if k' < b then k' else [k, k2].getD (k' - b) 0) (b + 1), 0, none⟩ m openB, _, _]⟩, _]⟩
    have h1 : ¬ b + 1 < b := by omega
    have h2 : b + 1 - b = 1 := by omega
    simp [mvS, h1, h2]
    exact ⟨⟨rfl, rfl⟩, rfl⟩
  · exact ⟨⟨⟨by simp, trivial⟩, ⟨by simp, trivial⟩, trivial, trivial, trivial⟩, trivial, trivial⟩
  · match i, h with
    | 0, h =>
      cases h
      refine ⟨(by intro e; cases e), _, (by show (Hp b L).get k = _; rw [Hp_get, hL]; rfl), ?_⟩
      exact ⟨(mvL_noAddr _ _ _ hno).symm, okML_noAddr _ _ _ hno, fun e => e, fun e => ⟨e, rfl⟩⟩
    | 1, h =>
      cases h
      refine ⟨(by intro e; cases e), _, (by show (Hp b L).get k2 = _; rw [Hp_get, hL2]; rfl), ?_⟩
      exact ⟨(mvL_noAddr _ _ _ hno2).symm, okML_noAddr _ _ _ hno2, fun e => e, fun e => ⟨e, rfl⟩⟩
end Go.Vm
namespace Go.Proofs.Ytjfgbdmdnejhdaa
open Go.RowKit Go.Vm
set_option maxRecDepth 100000

/-- The wear and the slurry in each groove, as the truth says. -/
def trF (lo hi : Int) (t : List Int) (o : Nat) : Nat → List Int
  | 0 => []
  | i + 1 => trF lo hi t o i ++ [atF lo hi (plF t (2 * i + o))]
theorem trF_len (lo hi : Int) (t : List Int) (o : Nat) : ∀ i, (trF lo hi t o i).length = i
  | 0 => rfl
  | i + 1 => by rw [trF, List.length_append, trF_len lo hi t o i]; rfl
theorem trF_bd {lo hi : Int} {t : List Int} {o : Nat} (h : lo ≤ hi) (ht : ∀ x ∈ t, 0 ≤ x ∧ x ≤ 255) : ∀ i, ∀ x ∈ trF lo hi t o i, lo ≤ x ∧ x ≤ hi
  | 0, _, h => by cases h
  | i + 1, x, hx => by
    rw [trF, List.mem_append] at hx
    rcases hx with hx | hx
    · exact trF_bd h ht i x hx
    · rw [List.mem_singleton] at hx
      subst hx
      have := plF_bd ht (2 * i + o)
      exact atF_bd h this.1 this.2
abbrev cutV (c : Wb) (s : Value) : Value := .agg #[.int .i64 c.dl, .int .i64 c.dh, .int .i64 c.wl, .int .i64 c.wh, .int .i64 c.le, .int .i64 c.p, .int .i64 c.g, .int .i64 c.st, .int .i64 c.sl, .int .i64 c.sh, s]
abbrev wsF (c : Wb) (t : List Int) (i : Nat) : List Int := trF c.wl c.wh t 1 i
abbrev ssF (c : Wb) (t : List Int) (i : Nat) : List Int := trF c.sl c.sh t 2 i
abbrev d0F (c : Wb) (t : List Int) : Int := atF c.dl c.dh (plF t 0)
theorem true_ok {c : Wb} {len : Int} {t : List Int} (V : Vd c len) (ht : ∀ x ∈ t, 0 ≤ x ∧ x ≤ 255) : Co c len (d0F c t) (wsF c t (usF c len)) (ssF c t (usF c len)) := by
  have h0 := plF_bd ht 0
  have h1 := atF_bd V.d2 h0.1 h0.2
  exact ⟨h1.1, h1.2, trF_len _ _ _ _ _, trF_len _ _ _ _ _, trF_bd V.w2 ht _, trF_bd V.l2 ht _⟩

/- (boule/bouletop.Cut).followed · slots 91 · names 0:c 1:length 2:c 3:length 6:t 7:i 8:p 9:_ 10:e · results [4, 5] -/
def ir6_r0 : IC := .reg [⟨some 2, none, false, .box (.t 0)⟩,
  ⟨some 4, none, false, .alloc [(.slice none 0 0), (.slice none 0 0), (.int .i64 0), (.int .i64 0)]⟩,
  ⟨some 5, none, false, .mv (.k (.bool false))⟩] (some [1, 2, 4])
def ir6_r1 : IC := .reg [⟨some 11, none, false, .fad 0 (.t 2)⟩,
  ⟨some 12, none, false, .lda 5 (.t 11)⟩,
  ⟨some 13, none, false, .fad 5 (.t 2)⟩,
  ⟨some 14, none, false, .lda 5 (.t 13)⟩,
  ⟨some 15, none, false, .mv (.t 1)⟩,
  ⟨some 16, none, false, .call (.f 16) [(.t 12), (.t 14), (.t 15)]⟩,
  ⟨some 17, none, false, .cmp .neq (.t 16) (.k (.int .i64 0))⟩] (some [1, 2, 4, 17])
def ir6_r2 : IC := .reg [⟨some 18, none, false, .bld [(.slice none 0 0), (.slice none 0 0), (.int .i64 0), (.int .i64 0)] []⟩,
  ⟨none, none, false, .st 4 (.t 4) (.t 18)⟩,
  ⟨some 5, none, false, .mv (.k (.bool false))⟩] (some [4, 5])
def ir6_1 : IC := .seq ir6_r2 .ret
def ir6_2 : IC := .cond (.t 17) ir6_1 .skip
def ir6_3 : IC := .seq ir6_r1 ir6_2
def ir6_r3 : IC := .draw [(⟨some 19, none, false, .fad 0 (.t 2)⟩, false, 0, 0),
  (⟨some 20, none, false, .fad 0 (.t 19)⟩, false, 1, 0),
  (⟨some 21, none, false, .lda 2 (.t 20)⟩, false, 3, 1),
  (⟨some 22, none, false, .fad 10 (.t 2)⟩, false, 0, 0),
  (⟨some 23, none, false, .ldc (.t 22)⟩, false, 8, 4),
  (⟨some 24, none, false, .call (.f 10) [(.t 23), (.k (.int .i64 0))]⟩, false, 24, 4),
  (⟨some 25, none, false, .call (.f 9) [(.t 21), (.t 24)]⟩, false, 63, 1),
  (⟨some 26, none, false, .bld [(.int .i64 0), (.slice none 0 0), (.slice none 0 0)] [(0, 1, (.t 25))]⟩, false, 127, 0),
  (⟨some 6, none, false, .alloc [(.int .i64 0), (.slice none 0 0), (.slice none 0 0)]⟩, false, 0, 64),
  (⟨none, none, false, .st 3 (.t 6) (.t 26)⟩, true, 511, 0)] (some [1, 2, 4, 6])
def ir6_r4 : IC := .reg [⟨some 7, none, false, .mv (.k (.int .i64 0))⟩] (some [1, 2, 4, 6, 7])
def ir6_r5 : IC := .reg [⟨some 27, none, false, .mv (.t 7)⟩,
  ⟨some 28, none, false, .fad 5 (.t 2)⟩,
  ⟨some 29, none, false, .fad 1 (.t 28)⟩,
  ⟨some 30, none, false, .ldc (.t 29)⟩,
  ⟨some 31, none, false, .cmp .lss (.t 27) (.t 30)⟩,
  ⟨some 32, none, false, .mv (.t 31)⟩,
  ⟨some 33, some (32, true), false, .fad 5 (.t 2)⟩,
  ⟨some 34, some (32, true), false, .fad 2 (.t 33)⟩,
  ⟨some 35, some (32, true), false, .ldc (.t 34)⟩,
  ⟨some 36, some (32, true), false, .mv (.t 7)⟩,
  ⟨some 37, some (32, true), false, .fad 5 (.t 2)⟩,
  ⟨some 38, some (32, true), false, .fad 0 (.t 37)⟩,
  ⟨some 39, some (32, true), false, .ldc (.t 38)⟩,
  ⟨some 40, some (32, true), false, .ar .mul (.t 36) (.t 39)⟩,
  ⟨some 41, some (32, true), false, .ar .add (.t 35) (.t 40)⟩,
  ⟨some 42, some (32, true), false, .mv (.t 1)⟩,
  ⟨some 43, some (32, true), false, .cmp .lss (.t 41) (.t 42)⟩,
  ⟨some 44, none, false, .pick (.t 32) (.t 43) (.k (.bool false))⟩] (some [1, 2, 4, 6, 7, 44])
def ir6_4 : IC := .cond (.t 44) .skip (.exit 0)
def ir6_5 : IC := .seq ir6_r5 ir6_4
def ir6_r7 : IC := .draw [(⟨some 47, none, false, .fad 1 (.t 6)⟩, false, 0, 0),
  (⟨some 48, none, false, .ldc (.t 47)⟩, false, 1, 134225921),
  (⟨some 49, none, false, .fad 0 (.t 2)⟩, false, 0, 0),
  (⟨some 50, none, false, .fad 2 (.t 49)⟩, false, 4, 0),
  (⟨some 51, none, false, .lda 2 (.t 50)⟩, false, 12, 134225922),
  (⟨some 52, none, false, .fad 10 (.t 2)⟩, false, 0, 0),
  (⟨some 53, none, false, .ldc (.t 52)⟩, false, 32, 134225934),
  (⟨some 54, none, false, .mv (.t 7)⟩, false, 0, 0),
  (⟨some 55, none, false, .ar .mul (.k (.int .i64 2)) (.t 54)⟩, false, 128, 0),
  (⟨some 56, none, false, .ar .add (.t 55) (.k (.int .i64 1))⟩, false, 384, 0),
  (⟨some 57, none, false, .call (.f 10) [(.t 53), (.t 56)]⟩, false, 992, 134225934),
  (⟨some 58, none, false, .call (.f 9) [(.t 51), (.t 57)]⟩, false, 2044, 134225922),
  (⟨some 59, none, false, .bsl 1 1 [(.int .i64 0)] [(0, (.t 58))]⟩, false, 4092, 134225922),
  (⟨some 60, none, false, .app 1 8 (.t 48) (.t 59)⟩, false, 8191, 134225921),
  (⟨some 61, none, false, .fad 2 (.t 6)⟩, false, 0, 0),
  (⟨some 62, none, false, .ldc (.t 61)⟩, false, 16384, 134234112),
  (⟨some 63, none, false, .fad 5 (.t 2)⟩, false, 0, 0),
  (⟨some 64, none, false, .fad 3 (.t 63)⟩, false, 65536, 0),
  (⟨some 65, none, false, .lda 2 (.t 64)⟩, false, 196608, 134250496),
  (⟨some 66, none, false, .fad 10 (.t 2)⟩, false, 0, 0),
  (⟨some 67, none, false, .ldc (.t 66)⟩, false, 524288, 134447104),
  (⟨some 68, none, false, .mv (.t 7)⟩, false, 0, 0),
  (⟨some 69, none, false, .ar .mul (.k (.int .i64 2)) (.t 68)⟩, false, 2097152, 0),
  (⟨some 70, none, false, .ar .add (.t 69) (.k (.int .i64 2))⟩, false, 6291456, 0),
  (⟨some 71, none, false, .call (.f 10) [(.t 67), (.t 70)]⟩, false, 16269311, 134438913),
  (⟨some 72, none, false, .call (.f 9) [(.t 65), (.t 71)]⟩, false, 33505279, 134242305),
  (⟨some 73, none, false, .bsl 1 1 [(.int .i64 0)] [(0, (.t 72))]⟩, false, 67059711, 134242305),
  (⟨some 74, none, false, .app 1 8 (.t 62) (.t 73)⟩, true, 134217727, 0),
  (⟨some 75, none, false, .fad 1 (.t 6)⟩, false, 65535, 0),
  (⟨none, none, false, .st 1 (.t 75) (.t 60)⟩, true, 536870911, 0),
  (⟨some 76, none, false, .fad 2 (.t 6)⟩, false, 1073741823, 0),
  (⟨none, none, false, .st 1 (.t 76) (.t 74)⟩, true, 2147483647, 0)] (some [1, 2, 4, 6, 7])
def ir6_6 : IC := .block 1 ir6_r7
def ir6_r6 : IC := .reg [⟨some 45, none, false, .mv (.t 7)⟩,
  ⟨some 46, none, false, .ar .add (.t 45) (.k (.int .i64 1))⟩,
  ⟨some 7, none, false, .mv (.t 46)⟩] (some [1, 2, 4, 6, 7])
def ir6_7 : IC := .seq ir6_6 ir6_r6
def ir6_8 : IC := .seq ir6_5 ir6_7
def ir6_9 : IC := .loop ir6_8
def ir6_10 : IC := .block 0 ir6_9
def ir6_11 : IC := .seq ir6_r4 ir6_10
def ir6_r8 : IC := .reg [⟨some 78, none, false, .fad 0 (.t 2)⟩,
  ⟨some 79, none, false, .lda 5 (.t 78)⟩,
  ⟨some 80, none, false, .fad 5 (.t 2)⟩,
  ⟨some 81, none, false, .lda 5 (.t 80)⟩,
  ⟨some 82, none, false, .mv (.t 1)⟩,
  ⟨some 83, none, false, .lda 3 (.t 6)⟩,
  ⟨some 84, none, false, .call (.f 21) [(.t 79), (.t 81), (.t 82), (.t 83)]⟩,
  ⟨some 77, none, false, .mv (.t 84)⟩,
  ⟨some 85, none, false, .ext (.t 77) 0⟩,
  ⟨some 86, none, false, .ext (.t 77) 1⟩,
  ⟨some 87, none, false, .ext (.t 77) 2⟩,
  ⟨some 8, none, false, .alloc [(.slice none 0 0), (.slice none 0 0), (.int .i64 0), (.int .i64 0)]⟩,
  ⟨none, none, false, .st 4 (.t 8) (.t 85)⟩,
  ⟨some 9, none, false, .mv (.t 86)⟩,
  ⟨some 10, none, false, .mv (.t 87)⟩] (some [4, 8, 10])
def ir6_r9 : IC := .reg [⟨some 88, none, false, .lda 4 (.t 8)⟩,
  ⟨some 89, none, false, .mv (.t 10)⟩,
  ⟨some 90, none, false, .cmp .eql (.t 89) (.k (.int .i64 0))⟩,
  ⟨none, none, false, .st 4 (.t 4) (.t 88)⟩,
  ⟨some 5, none, false, .mv (.t 90)⟩] (some [4, 5])
def ir6_12 : IC := .seq ir6_r9 .ret
def ir6_13 : IC := .seq ir6_r8 ir6_12
def ir6_14 : IC := .seq ir6_11 ir6_13
def ir6_15 : IC := .seq ir6_r3 ir6_14
def ir6_16 : IC := .seq ir6_3 ir6_15
def ir6_17 : IC := .seq ir6_r0 ir6_16
def ir6 : IC := ir6_17
theorem fn6 : FnIs Try.prog 6 ir6 91 [.cell 4 43, .tmp 5] := ⟨Try.f6, Try.f6.body.getD .skip, Try.func6, by kernel_rfl, by kernel_rfl, by kernel_rfl, by kernel_rfl⟩
theorem followedE_c (c : Wb) (len : Int) (t : List Int) (nt ct : Nat) (hV : ckE c len ≠ 0) :
    Fc Try.prog 6 [cutV c (s1 nt ct), .int .i64 len] (H1 (rows eY t)) (.tuple #[.agg #[.slice none 0 0, .slice none 0 0, .int .i64 0, .int .i64 0], .bool false]) (H1 (rows eY t)) := by
  refine Fc.intro0 fn6 (by simp) rfl rfl ?_; simp only [argF]
  refine ITri.seq ?_
  refine ITri.reg pok ?_; simp -implicitDefEqProofs (disch := first | decide | exact of_eq_true (eq_true rfl) | omega | assumption) only [ ↓vcD, vcE, ↓vcG, vcF, evs, evP, evB, intsOf, fillC, Value.cells, pt, Value.oneCell', reduceIte, reduceCtorEq, Nat.reduceEqDiff, Nat.reduceAdd, Nat.reduceMul, Nat.reduceLT, Nat.reduceBEq, Nat.reduceLeDiff, Nat.reduceSub] -- r0
  refine ITri.seq ?_
  refine ITri.seq ?_
  refine ITri.reg pok ?_; simp -implicitDefEqProofs (disch := first | decide | exact of_eq_true (eq_true rfl) | omega | assumption) only [ ↓vcD, vcE, ↓vcG, vcF, evs, evP, evB, intsOf, fillC, Value.cells, pt, Value.oneCell', reduceIte, reduceCtorEq, Nat.reduceEqDiff, Nat.reduceAdd, Nat.reduceMul, Nat.reduceLT, Nat.reduceBEq, Nat.reduceLeDiff, Nat.reduceSub] -- r1
  refine ⟨_, _, check_f c len (sees0 rfl (of_decide_eq_true rfl)), ?_⟩
  simp -implicitDefEqProofs (disch := first | decide | exact of_eq_true (eq_true rfl) | omega | assumption) only [hV, decide_false, Bool.not_false, not_false_eq_true, decide_true,  ↓vcD, vcE, ↓vcG, vcF, evs, evP, evB, intsOf, fillC, Value.cells, pt, Value.oneCell', reduceIte, reduceCtorEq, Nat.reduceEqDiff, Nat.reduceAdd, Nat.reduceMul, Nat.reduceLT, Nat.reduceBEq, Nat.reduceLeDiff, Nat.reduceSub]
  refine ITri.cond (v := true) rfl (fun _ => ?_) (fun h => by cases h)
  refine ITri.seq ?_
  refine ITri.reg pok ?_; simp -implicitDefEqProofs (disch := first | decide | exact of_eq_true (eq_true rfl) | omega | assumption) only [wr44,  ↓vcD, vcE, ↓vcG, vcF, evs, evP, evB, intsOf, fillC, Value.cells, pt, Value.oneCell', reduceIte, reduceCtorEq, Nat.reduceEqDiff, Nat.reduceAdd, Nat.reduceMul, Nat.reduceLT, Nat.reduceBEq, Nat.reduceLeDiff, Nat.reduceSub] -- r2
  refine ITri.ret ?_; exact EndR.plain (vs := [.agg ⟨[.slice none 0 0, .slice none 0 0, .int .i64 0, .int .i64 0]⟩, .bool false]) (by simp) (resF_agg 4 rfl (by kernel_rfl) (by simp -implicitDefEqProofs (disch := first | decide | exact of_eq_true (eq_true rfl) | omega | assumption) only [↓vcD, vcE, ↓vcG, vcF, evs, evP, evB, intsOf, fillC, Value.cells, pt, Value.oneCell', reduceIte, reduceCtorEq, Nat.reduceEqDiff, Nat.reduceAdd, Nat.reduceMul, Nat.reduceLT, Nat.reduceBEq, Nat.reduceLeDiff, Nat.reduceSub]) (resF_tmp rfl resF_nil)) (by rfl) (by rfl)
set_option maxHeartbeats 2000000 in
theorem followed_c (c : Wb) (len : Int) (t : List Int) (nt ct n : Nat) (hnt : t.length = nt) (ht : ∀ x ∈ t, 0 ≤ x ∧ x ≤ 255) (V : Vd c len) (hV : ckE c len = 0) (hn : usF c len = n) :
    Fc Try.prog 6 [cutV c (s1 nt ct), .int .i64 len] (H1 (rows eY t)) (.tuple #[ptV 2 3 (SF c len (d0F c t) (wsF c t n) (ssF c t n) n).length n (min c.st len) (restF c len (d0F c t) (wsF c t n) (ssF c t n) n), .bool true])
      ((H1 (rows eY t)).news [.cells ⟨rows eI (SF c len (d0F c t) (wsF c t n) (ssF c t n) n), 1, true⟩, .cells ⟨rows eI (KF c len (d0F c t) (wsF c t n) (ssF c t n) n), 1, true⟩]) := by
  have p0 := plF_bd ht
  have hle := usF_le V
  have v1 := V.d1
  have v2 := V.d2
  have v3 := V.d3
  have v4 := V.w1
  have v5 := V.w2
  have v6 := V.w3
  have v7 := V.l1
  have v8 := V.l2
  have v9 := V.l3
  have := V.g2
  have := V.p1
  have := V.p2
  have := V.s1
  have := V.s2
  have := V.n1
  have := V.n2
  refine Fc.introR fn6 (by simp) rfl rfl ?_; simp only [argF]
  refine ITri.seq ?_
  refine ITri.reg pok ?_; simp -implicitDefEqProofs (disch := first | decide | exact of_eq_true (eq_true rfl) | omega | assumption) only [ ↓vcD, vcE, ↓vcG, vcF, evs, evP, evB, intsOf, fillC, Value.cells, pt, Value.oneCell', reduceIte, reduceCtorEq, Nat.reduceEqDiff, Nat.reduceAdd, Nat.reduceMul, Nat.reduceLT, Nat.reduceBEq, Nat.reduceLeDiff, Nat.reduceSub] -- r0
  refine ITri.seq ?_
  refine ITri.seq ?_
  refine ITri.reg pok ?_; simp -implicitDefEqProofs (disch := first | decide | exact of_eq_true (eq_true rfl) | omega | assumption) only [ ↓vcD, vcE, ↓vcG, vcF, evs, evP, evB, intsOf, fillC, Value.cells, pt, Value.oneCell', reduceIte, reduceCtorEq, Nat.reduceEqDiff, Nat.reduceAdd, Nat.reduceMul, Nat.reduceLT, Nat.reduceBEq, Nat.reduceLeDiff, Nat.reduceSub] -- r1
  refine ⟨_, _, check_f c len (sees0 rfl (of_decide_eq_true rfl)), ?_⟩
  simp -implicitDefEqProofs (disch := first | decide | exact of_eq_true (eq_true rfl) | omega | assumption) only [hV,  ↓vcD, vcE, ↓vcG, vcF, evs, evP, evB, intsOf, fillC, Value.cells, pt, Value.oneCell', reduceIte, reduceCtorEq, Nat.reduceEqDiff, Nat.reduceAdd, Nat.reduceMul, Nat.reduceLT, Nat.reduceBEq, Nat.reduceLeDiff, Nat.reduceSub]
  refine ITri.cond (v := false) rfl (fun h => by cases h) (fun _ => ?_); refine ITri.skip ?_; simp only [SeqQ_normal, BlkQ_normal]
  refine ITri.seq ?_
  refine ITri.draw pok ?_; simp -implicitDefEqProofs (disch := first | decide | exact of_eq_true (eq_true rfl) | omega | assumption) only [ ↓vcD, vcE, ↓vcG, vcF, evs, evP, evB, intsOf, fillC, Value.cells, pt, Value.oneCell', reduceIte, reduceCtorEq, Nat.reduceEqDiff, Nat.reduceAdd, Nat.reduceMul, Nat.reduceLT, Nat.reduceBEq, Nat.reduceLeDiff, Nat.reduceSub] -- r3
  refine ⟨_, _, place_f (t := t) hnt 0 (by omega) (sees0 rfl (of_decide_eq_true rfl)) (Rd.hq rfl rfl), ?_⟩
  try simp -implicitDefEqProofs (disch := first | decide | exact of_eq_true (eq_true rfl) | omega | assumption) only [ ↓vcD, vcE, ↓vcG, vcF, evs, evP, evB, intsOf, fillC, Value.cells, pt, Value.oneCell', reduceIte, reduceCtorEq, Nat.reduceEqDiff, Nat.reduceAdd, Nat.reduceMul, Nat.reduceLT, Nat.reduceBEq, Nat.reduceLeDiff, Nat.reduceSub]
  refine ⟨_, _, at_f c.dl c.dh (plF t 0) (by omega) v2 v3 (p0 0).1 (p0 0).2 (sees0 rfl (of_decide_eq_true rfl)), ?_⟩
  try simp -implicitDefEqProofs (disch := first | decide | exact of_eq_true (eq_true rfl) | omega | assumption) only [ ↓vcD, vcE, ↓vcG, vcF, evs, evP, evB, intsOf, fillC, Value.cells, pt, Value.oneCell', reduceIte, reduceCtorEq, Nat.reduceEqDiff, Nat.reduceAdd, Nat.reduceMul, Nat.reduceLT, Nat.reduceBEq, Nat.reduceLeDiff, Nat.reduceSub]
  refine ITri.seq ?_
  refine ITri.seq ?_
  refine ITri.reg pok ?_; simp -implicitDefEqProofs (disch := first | decide | exact of_eq_true (eq_true rfl) | omega | assumption) only [ ↓vcD, vcE, ↓vcG, vcF, evs, evP, evB, intsOf, fillC, Value.cells, pt, Value.oneCell', reduceIte, reduceCtorEq, Nat.reduceEqDiff, Nat.reduceAdd, Nat.reduceMul, Nat.reduceLT, Nat.reduceBEq, Nat.reduceLeDiff, Nat.reduceSub] -- r4
  have y0 : rows eI (wsF c t 0) = [] := rfl
  have y1 : rows eI (ssF c t 0) = [] := rfl
  refine ITri.block ?_ -- 0
  refine ITri.loop (fun k : Nat => [(1, .int .i64 len), (2, pt 2), (4, pt 3), (6, pt 4), (7, .int .i64 k)]) (fun _ => []) (fun k => Hp 2 [none, some (.cells ⟨rows eY t, 0, false⟩), some (.cells ⟨[.int .i64 c.dl, .int .i64 c.dh, .int .i64 c.wl, .int .i64 c.wh, .int .i64 c.le, .int .i64 c.p, .int .i64 c.g, .int .i64 c.st, .int .i64 c.sl, .int .i64 c.sh, s1 nt ct], 1, false⟩), some (.cells ⟨[.slice none 0 0, .slice none 0 0, .int .i64 0, .int .i64 0], 1, false⟩), some (.cells ⟨[.int .i64 (d0F c t), sO 5 k, sO 6 k], 1, false⟩), rowO (wsF c t k), rowO (ssF c t k)]) (fun k => k ≤ n) (fun k => n - k) 0 (by omega) (Wk.gc [0, 1, 2, 3, 4, 5, 6] [(5, .nil), (6, .nil)] (of_decide_eq_true rfl) (of_decide_eq_true rfl) rfl rfl (of_decide_eq_true rfl) rfl rfl (by repeat (first | exact xiOK_nil | refine xiOK_cons (by first | trivial | exact roomOK _ (by decide)) ?_)) rfl (by simp -implicitDefEqProofs (disch := first | decide | exact of_eq_true (eq_true rfl) | omega | assumption) only [y0, y1, objOK, sgL, xiL, objAt, nilO, OM, mvL, mv, mvS, okS, okP, mvL_rows, okML, okM, okML_rows, List.getElem?_cons_zero, Option.getD_some, implies_true, imp_self, ne_eq, and_self, true_or, or_true, Nat.zero_mul, Nat.sub_self, openB_self, ↓vcD, vcE, ↓vcG, vcF, evs, evP, evB, intsOf, fillC, Value.cells, pt, Value.oneCell', reduceIte, reduceCtorEq, Nat.reduceEqDiff, Nat.reduceAdd, Nat.reduceMul, Nat.reduceLT, Nat.reduceBEq, Nat.reduceLeDiff, Nat.reduceSub]) (by simp -implicitDefEqProofs (disch := first | decide | exact of_eq_true (eq_true rfl) | omega | assumption) only [y0, y1, valOK, sgL, xiL, mv, mvA, mvL, mvS, okS, okP, okM, okMA, okML, Option.getD_some, implies_true, and_self, true_or, or_true, Int.natCast_add, Int.cast_ofNat_Int, Nat.zero_mul, Nat.sub_self, openB_self, ↓vcD, vcE, ↓vcG, vcF, evs, evP, evB, intsOf, fillC, Value.cells, pt, Value.oneCell', reduceIte, reduceCtorEq, Nat.reduceEqDiff, Nat.reduceAdd, Nat.reduceMul, Nat.reduceLT, Nat.reduceBEq, Nat.reduceLeDiff, Nat.reduceSub]) (fun _ h => by cases h) ⟨rfl, fun _ h => by cases h⟩) fun k hk => ?_
  have hkn := usF_iff V k
  rw [hn] at hkn hle
  have kp0 : 0 ≤ (k : Int) * c.p := Int.mul_nonneg (by omega) (by omega)
  have kp1 : (k : Int) * c.p ≤ 2000 * 10000000 := Int.mul_le_mul (by omega) (by omega) (by omega) (by omega)
  refine ITri.seq ?_
  refine ITri.seq ?_
  refine ITri.one (P := Try.prog) [(1, .int .i64 len), (2, pt 2), (4, pt 3), (6, pt 4), (7, .int .i64 k), (44, .bool (decide (k < n)))] ?_ ?_
  · by_cases h1 : (k : Int) < c.g
    · have h2 : (c.st + k * c.p < len) = (k < n) := propext ⟨fun h => hkn.2 ⟨h1, h⟩, fun h => (hkn.1 h).2⟩
      refine ITri.reg pok ?_; simp -implicitDefEqProofs (disch := first | decide | exact of_eq_true (eq_true rfl) | omega | assumption) only [h1, h2, decide_true,  ↓vcD, vcE, ↓vcG, vcF, evs, evP, evB, intsOf, fillC, Value.cells, pt, Value.oneCell', reduceIte, reduceCtorEq, Nat.reduceEqDiff, Nat.reduceAdd, Nat.reduceMul, Nat.reduceLT, Nat.reduceBEq, Nat.reduceLeDiff, Nat.reduceSub]
    · have h2 : ¬ k < n := fun h => h1 (hkn.1 h).1
      refine ITri.reg pok ?_; simp -implicitDefEqProofs (disch := first | decide | exact of_eq_true (eq_true rfl) | omega | assumption) only [h1, h2, decide_false,  ↓vcD, vcE, ↓vcG, vcF, evs, evP, evB, intsOf, fillC, Value.cells, pt, Value.oneCell', reduceIte, reduceCtorEq, Nat.reduceEqDiff, Nat.reduceAdd, Nat.reduceMul, Nat.reduceLT, Nat.reduceBEq, Nat.reduceLeDiff, Nat.reduceSub]
  refine ITri.condD (by rfl) (fun h3 => ?_) (fun h3 => ?_) -- %44
  · refine ITri.skip ?_; simp only [SeqQ_normal, BlkQ_normal]
    refine ITri.seq ?_
    refine ITri.block ?_ -- 1
    have e1 : 2 * (k : Int) + 1 = ((2 * k + 1 : Nat) : Int) := by omega
    have e2 : 2 * (k : Int) + 2 = ((2 * k + 2 : Nat) : Int) := by omega
    have l1 : (rows eI (wsF c t k)).length = k * 1 := by rw [rows_len (f := eI), trF_len]
    have l2 : (rows eI (ssF c t k)).length = k * 1 := by rw [rows_len (f := eI), trF_len]
    refine ITri.draw pok ?_; simp -implicitDefEqProofs (disch := first | decide | exact of_eq_true (eq_true rfl) | omega | assumption) only [e1, e2,  ↓vcD, vcE, ↓vcG, vcF, evs, evP, evB, intsOf, fillC, Value.cells, pt, Value.oneCell', reduceIte, reduceCtorEq, Nat.reduceEqDiff, Nat.reduceAdd, Nat.reduceMul, Nat.reduceLT, Nat.reduceBEq, Nat.reduceLeDiff, Nat.reduceSub] -- r7
    refine ⟨_, _, place_f (t := t) hnt (2 * k + 1) (by omega) (sees0 rfl (of_decide_eq_true rfl)) (Rd.hq rfl rfl), ?_⟩
    try simp -implicitDefEqProofs (disch := first | decide | exact of_eq_true (eq_true rfl) | omega | assumption) only [ ↓vcD, vcE, ↓vcG, vcF, evs, evP, evB, intsOf, fillC, Value.cells, pt, Value.oneCell', reduceIte, reduceCtorEq, Nat.reduceEqDiff, Nat.reduceAdd, Nat.reduceMul, Nat.reduceLT, Nat.reduceBEq, Nat.reduceLeDiff, Nat.reduceSub]
    refine ⟨_, _, at_f c.wl c.wh (plF t (2 * k + 1)) (by omega) v5 v6 (p0 _).1 (p0 _).2 (sees0 rfl (of_decide_eq_true rfl)), ?_⟩
    simp -implicitDefEqProofs (disch := first | decide | exact of_eq_true (eq_true rfl) | omega | assumption) only [l1, e2,  ↓vcD, vcE, ↓vcG, vcF, evs, evP, evB, intsOf, fillC, Value.cells, pt, Value.oneCell', reduceIte, reduceCtorEq, Nat.reduceEqDiff, Nat.reduceAdd, Nat.reduceMul, Nat.reduceLT, Nat.reduceBEq, Nat.reduceLeDiff, Nat.reduceSub]
    refine ⟨_, _, place_f (t := t) hnt (2 * k + 2) (by omega) (sees0 rfl (of_decide_eq_true rfl)) (Rd.hq rfl rfl), ?_⟩
    try simp -implicitDefEqProofs (disch := first | decide | exact of_eq_true (eq_true rfl) | omega | assumption) only [ ↓vcD, vcE, ↓vcG, vcF, evs, evP, evB, intsOf, fillC, Value.cells, pt, Value.oneCell', reduceIte, reduceCtorEq, Nat.reduceEqDiff, Nat.reduceAdd, Nat.reduceMul, Nat.reduceLT, Nat.reduceBEq, Nat.reduceLeDiff, Nat.reduceSub]
    refine ⟨_, _, at_f c.sl c.sh (plF t (2 * k + 2)) (by omega) v8 v9 (p0 _).1 (p0 _).2 (sees0 rfl (of_decide_eq_true rfl)), ?_⟩
    simp -implicitDefEqProofs (disch := first | decide | exact of_eq_true (eq_true rfl) | omega | assumption) only [l2,  ↓vcD, vcE, ↓vcG, vcF, evs, evP, evB, intsOf, fillC, Value.cells, pt, Value.oneCell', reduceIte, reduceCtorEq, Nat.reduceEqDiff, Nat.reduceAdd, Nat.reduceMul, Nat.reduceLT, Nat.reduceBEq, Nat.reduceLeDiff, Nat.reduceSub]
    have e3 : rows eI (wsF c t k) ++ [Value.int .i64 (atF c.wl c.wh (plF t (2 * k + 1)))] = rows eI (wsF c t (k + 1)) := by
      show _ = rows eI (trF _ _ _ _ _ ++ _)
      rw [rows_append]; rfl
    have e4 : rows eI (ssF c t k) ++ [Value.int .i64 (atF c.sl c.sh (plF t (2 * k + 2)))] = rows eI (ssF c t (k + 1)) := by
      show _ = rows eI (trF _ _ _ _ _ ++ _)
      rw [rows_append]; rfl
    rw [e3, e4]
    refine ITri.reg pok ?_; simp -implicitDefEqProofs (disch := first | decide | exact of_eq_true (eq_true rfl) | omega | assumption) only [ ↓vcD, vcE, ↓vcG, vcF, evs, evP, evB, intsOf, fillC, Value.cells, pt, Value.oneCell', reduceIte, reduceCtorEq, Nat.reduceEqDiff, Nat.reduceAdd, Nat.reduceMul, Nat.reduceLT, Nat.reduceBEq, Nat.reduceLeDiff, Nat.reduceSub] -- r6
    exact LoopQ.next (k + 1) h3 (by omega) (Wk.gc [0, 1, 2, 3, 4, 8, 10] [] (of_decide_eq_true rfl) (of_decide_eq_true rfl) rfl rfl (of_decide_eq_true rfl) rfl rfl (by repeat (first | exact xiOK_nil | refine xiOK_cons (by first | trivial | exact roomOK _ (by decide)) ?_)) rfl (by simp -implicitDefEqProofs (disch := first | decide | exact of_eq_true (eq_true rfl) | omega | assumption) only [ objOK, sgL, xiL, objAt, nilO, OM, mvL, mv, mvS, okS, okP, mvL_rows, okML, okM, okML_rows, List.getElem?_cons_zero, Option.getD_some, implies_true, imp_self, ne_eq, and_self, true_or, or_true, Nat.zero_mul, Nat.sub_self, openB_self, ↓vcD, vcE, ↓vcG, vcF, evs, evP, evB, intsOf, fillC, Value.cells, pt, Value.oneCell', reduceIte, reduceCtorEq, Nat.reduceEqDiff, Nat.reduceAdd, Nat.reduceMul, Nat.reduceLT, Nat.reduceBEq, Nat.reduceLeDiff, Nat.reduceSub]) (by simp -implicitDefEqProofs (disch := first | decide | exact of_eq_true (eq_true rfl) | omega | assumption) only [ valOK, sgL, xiL, mv, mvA, mvL, mvS, okS, okP, okM, okMA, okML, Option.getD_some, implies_true, and_self, true_or, or_true, Int.natCast_add, Int.cast_ofNat_Int, Nat.zero_mul, Nat.sub_self, openB_self, ↓vcD, vcE, ↓vcG, vcF, evs, evP, evB, intsOf, fillC, Value.cells, pt, Value.oneCell', reduceIte, reduceCtorEq, Nat.reduceEqDiff, Nat.reduceAdd, Nat.reduceMul, Nat.reduceLT, Nat.reduceBEq, Nat.reduceLeDiff, Nat.reduceSub]) (fun _ h => by cases h) ⟨rfl, fun _ h => by cases h⟩)
  refine ITri.exit ?_; try simp -implicitDefEqProofs (disch := first | decide | exact of_eq_true (eq_true rfl) | omega | assumption) only [ ↓vcD, vcE, ↓vcG, vcF, evs, evP, evB, intsOf, fillC, Value.cells, pt, Value.oneCell', reduceIte, reduceCtorEq, Nat.reduceEqDiff, Nat.reduceAdd, Nat.reduceMul, Nat.reduceLT, Nat.reduceBEq, Nat.reduceLeDiff, Nat.reduceSub]
  obtain rfl : n = k := by omega
  have C := true_ok V ht
  rw [hn] at C
  refine ITri.seq ?_
  refine ITri.reg pok ?_; simp -implicitDefEqProofs (disch := first | decide | exact of_eq_true (eq_true rfl) | omega | assumption) only [ ↓vcD, vcE, ↓vcG, vcF, evs, evP, evB, intsOf, fillC, Value.cells, pt, Value.oneCell', reduceIte, reduceCtorEq, Nat.reduceEqDiff, Nat.reduceAdd, Nat.reduceMul, Nat.reduceLT, Nat.reduceBEq, Nat.reduceLeDiff, Nat.reduceSub] -- r8
  refine ⟨_, _, follow_f V hV C hn (sees0 rfl (of_decide_eq_true rfl)) (get_hq rfl rfl) (get_hq rfl rfl), ?_⟩
  simp -implicitDefEqProofs (disch := first | decide | exact of_eq_true (eq_true rfl) | omega | assumption) only [news_c, news_n, wr44,  ↓vcD, vcE, ↓vcG, vcF, evs, evP, evB, intsOf, fillC, Value.cells, pt, Value.oneCell', reduceIte, reduceCtorEq, Nat.reduceEqDiff, Nat.reduceAdd, Nat.reduceMul, Nat.reduceLT, Nat.reduceBEq, Nat.reduceLeDiff, Nat.reduceSub]
  refine ITri.seq ?_
  refine ITri.reg pok ?_; simp -implicitDefEqProofs (disch := first | decide | exact of_eq_true (eq_true rfl) | omega | assumption) only [wr44, decide_true,  ↓vcD, vcE, ↓vcG, vcF, evs, evP, evB, intsOf, fillC, Value.cells, pt, Value.oneCell', reduceIte, reduceCtorEq, Nat.reduceEqDiff, Nat.reduceAdd, Nat.reduceMul, Nat.reduceLT, Nat.reduceBEq, Nat.reduceLeDiff, Nat.reduceSub] -- r9
  refine ITri.ret ?_
  exact end_cutB (k := 7) (k2 := 8) (by decide) (by decide) (by decide) (rows_no (f := eI) _) (rows_no (f := eI) _) rfl rfl (resF_agg 4 rfl (by kernel_rfl) (by simp -implicitDefEqProofs (disch := first | decide | exact of_eq_true (eq_true rfl) | omega | assumption) only [↓vcD, vcE, ↓vcG, vcF, evs, evP, evB, intsOf, fillC, Value.cells, pt, Value.oneCell', reduceIte, reduceCtorEq, Nat.reduceEqDiff, Nat.reduceAdd, Nat.reduceMul, Nat.reduceLT, Nat.reduceBEq, Nat.reduceLeDiff, Nat.reduceSub]) (resF_tmp rfl resF_nil))
end Go.Proofs.Ytjfgbdmdnejhdaa
