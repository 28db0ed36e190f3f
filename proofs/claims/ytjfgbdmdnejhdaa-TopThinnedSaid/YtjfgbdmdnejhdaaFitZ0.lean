/-
  Chapters 9 and 10 at the top: followed, within, in any memory; numbers of slices.
-/
import Derived.Test.YtjfgbdmdnejhdaaFitU
set_option linter.unusedSimpArgs false
set_option linter.unusedVariables false
namespace Go.Proofs.Ytjfgbdmdnejhdaa
open Go.RowKit Go.Vm
set_option maxRecDepth 100000
abbrev rngV (a b : Int) : Value := .agg #[.int .i64 a, .int .i64 b]
section
variable {c : Wb} {len : Int} {h : AH}
theorem followedE_f {t : List Int} {nt : Nat} (hV : ckE c len ≠ 0) {s : Value} (h0 : h.sees 0 = true) (r : Rd h s nt (rows eY t)) :
    Fc Try.prog 6 [cutV c s, .int .i64 len] h (.tuple #[.agg #[.slice none 0 0, .slice none 0 0, .int .i64 0, .int .i64 0], .bool false]) h :=
  Fc.lift1 (mk := fun ss => .agg ⟨[.int .i64 c.dl, .int .i64 c.dh, .int .i64 c.wl, .int .i64 c.wh, .int .i64 c.le, .int .i64 c.p, .int .i64 c.g, .int .i64 c.st, .int .i64 c.sl, .int .i64 c.sh] ++ ss ++ []⟩ :: [.int .i64 len]) (mkv := fun _ => .tuple #[.agg #[.slice none 0 0, .slice none 0 0, .int .i64 0, .int .i64 0], .bool false]) (os := []) (fun ct => followedE_c c len t nt ct hV) (MkL.agg1 (MkL.mid rfl rfl) rfl) (MkV.const rfl) (rows_no (f := eY) t) (fun o ho => by cases ho) h0 r
theorem followed_f {t : List Int} {nt n : Nat} (hnt : t.length = nt) (ht : ∀ x ∈ t, 0 ≤ x ∧ x ≤ 255) (V : Vd c len) (hV : ckE c len = 0) (hn : usF c len = n) {s : Value} (h0 : h.sees 0 = true) (r : Rd h s nt (rows eY t)) :
    Fc Try.prog 6 [cutV c s, .int .i64 len] h (.tuple #[ptV h.next (h.next + 1) (SF c len (d0F c t) (wsF c t n) (ssF c t n) n).length n (min c.st len) (restF c len (d0F c t) (wsF c t n) (ssF c t n) n), .bool true])
      (h.news [.cells ⟨rows eI (SF c len (d0F c t) (wsF c t n) (ssF c t n) n), 1, true⟩, .cells ⟨rows eI (KF c len (d0F c t) (wsF c t n) (ssF c t n) n), 1, true⟩]) :=
  Fc.lift1 (mk := fun ss => .agg ⟨[.int .i64 c.dl, .int .i64 c.dh, .int .i64 c.wl, .int .i64 c.wh, .int .i64 c.le, .int .i64 c.p, .int .i64 c.g, .int .i64 c.st, .int .i64 c.sl, .int .i64 c.sh] ++ ss ++ []⟩ :: [.int .i64 len]) (mkv := fun ss => .tuple ⟨.agg ⟨ss ++ [.int .i64 (min c.st len), .int .i64 (restF c len (d0F c t) (wsF c t n) (ssF c t n) n)]⟩ :: [.bool true]⟩) (os := [((SF c len (d0F c t) (wsF c t n) (ssF c t n) n).length, rows eI (SF c len (d0F c t) (wsF c t n) (ssF c t n) n), 1), (n, rows eI (KF c len (d0F c t) (wsF c t n) (ssF c t n) n), 1)])
    (fun ct => by
      have := followed_c c len t nt ct n hnt ht V hV hn
      rw [Hq_news] at this
      exact this) (MkL.agg1 (MkL.mid rfl rfl) rfl) (MkV.tup (MkL.agg1 (MkL.app rfl) rfl)) (rows_no (f := eY) t) (fun o ho => by
      simp at ho
      rcases ho with rfl | rfl <;> exact rows_no (f := eI) _) h0 r
end
/- boule/bouletop.within · slots 15 · names 0:n 1:r 2:n 3:r · results [4] -/
def ir14_r0 : IC := .reg [⟨some 3, none, false, .box (.t 1)⟩,
  ⟨some 4, none, false, .mv (.k (.bool false))⟩] (some [0, 3])
def ir14_r1 : IC := .reg [⟨some 5, none, false, .mv (.t 0)⟩,
  ⟨some 6, none, false, .fad 0 (.t 3)⟩,
  ⟨some 7, none, false, .ldc (.t 6)⟩,
  ⟨some 8, none, false, .cmp .geq (.t 5) (.t 7)⟩,
  ⟨some 9, none, false, .mv (.t 8)⟩,
  ⟨some 10, some (9, true), false, .mv (.t 0)⟩,
  ⟨some 11, some (9, true), false, .fad 1 (.t 3)⟩,
  ⟨some 12, some (9, true), false, .ldc (.t 11)⟩,
  ⟨some 13, some (9, true), false, .cmp .leq (.t 10) (.t 12)⟩,
  ⟨some 14, none, false, .pick (.t 9) (.t 13) (.k (.bool false))⟩,
  ⟨some 4, none, false, .mv (.t 14)⟩] (some [4])
def ir14_1 : IC := .seq ir14_r1 .ret
def ir14_2 : IC := .seq ir14_r0 ir14_1
def ir14 : IC := ir14_2
theorem fn14 : FnIs Try.prog 14 ir14 15 [.tmp 4] := ⟨Try.f14, Try.f14.body.getD .skip, Try.func14, by kernel_rfl, by kernel_rfl, by kernel_rfl, by kernel_rfl⟩
theorem win_f (n a b : Int) {h : AH} (hs : h.sees 0 = true) : Fc Try.prog 14 [.int .i64 n, rngV a b] h (.bool (inB n a b)) h := by
  refine Fc.lift0 ?_ rfl rfl hs
  refine Fc.intro0 fn14 (by simp) rfl rfl ?_; simp only [argF]
  refine ITri.seq ?_
  refine ITri.reg pok ?_; simp -implicitDefEqProofs (disch := first | decide | exact of_eq_true (eq_true rfl) | omega | assumption) only [ ↓vcD, vcE, ↓vcG, vcF, evs, evP, evB, intsOf, fillC, Value.cells, pt, Value.oneCell', reduceIte, reduceCtorEq, Nat.reduceEqDiff, Nat.reduceAdd, Nat.reduceMul, Nat.reduceLT, Nat.reduceBEq, Nat.reduceLeDiff, Nat.reduceSub]
  refine ITri.seq ?_
  by_cases g : a ≤ n
  · have g' : n ≥ a := g
    refine ITri.reg pok ?_; simp -implicitDefEqProofs (disch := first | decide | exact of_eq_true (eq_true rfl) | omega | assumption) only [g', decide_true,  ↓vcD, vcE, ↓vcG, vcF, evs, evP, evB, intsOf, fillC, Value.cells, pt, Value.oneCell', reduceIte, reduceCtorEq, Nat.reduceEqDiff, Nat.reduceAdd, Nat.reduceMul, Nat.reduceLT, Nat.reduceBEq, Nat.reduceLeDiff, Nat.reduceSub]
    refine ITri.ret ?_; exact EndR.plain (by simp) (by rfl) (by unfold inB; rw [decide_eq_true g]; rfl) (by rfl)
  · have g' : ¬ n ≥ a := g
    refine ITri.reg pok ?_; simp -implicitDefEqProofs (disch := first | decide | exact of_eq_true (eq_true rfl) | omega | assumption) only [g', decide_false,  ↓vcD, vcE, ↓vcG, vcF, evs, evP, evB, intsOf, fillC, Value.cells, pt, Value.oneCell', reduceIte, reduceCtorEq, Nat.reduceEqDiff, Nat.reduceAdd, Nat.reduceMul, Nat.reduceLT, Nat.reduceBEq, Nat.reduceLeDiff, Nat.reduceSub]
    refine ITri.ret ?_; exact EndR.plain (by simp) (by rfl) (by unfold inB; rw [decide_eq_false g]; rfl) (by rfl)
section
variable {c : Wb} {len d0 : Int} {W S : List Int} {n : Nat}
theorem in_ok {n a b : Int} (h : inB n a b = true) : a ≤ n ∧ n ≤ b := by
  unfold inB at h
  simp only [Bool.and_eq_true, decide_eq_true_eq] at h
  exact h
theorem ckE_ok {c : Wb} {len : Int} (h : ckE c len = 0) : Vd c len := by
  unfold ckE at h
  split at h
  · rename_i h1
    split at h
    · rename_i h2
      unfold ckB wireB at h1
      simp only [Bool.and_eq_true, Bool.not_eq_true', decide_eq_false_iff_not] at h1
      obtain ⟨⟨⟨⟨⟨⟨⟨a1, a2⟩, a3⟩, a4⟩, a5⟩, a6⟩, a7⟩, a8⟩ := h1
      have b1 := rng_ok a1
      have b2 := rng_ok a2
      have b4 := in_ok a4
      have b5 := in_ok a5
      have b6 := in_ok a6
      have b7 := rng_ok a7
      have b8 := in_ok h2
      constructor <;> omega
    · omega
  · omega
theorem SF_bd (V : Vd c len) (C : Co c len d0 W S) (hn : usF c len = n) {i : Nat} (hi : i < n - 1) : 0 ≤ nth (SF c len d0 W S n) i ∧ nth (SF c len d0 W S n) i ≤ 10000000 := by
  have h1 := kfF_bd V C (show i < usF c len by omega)
  have := V.p2
  rw [SF_nth c len d0 W S hn hi]
  omega
end
end Go.Proofs.Ytjfgbdmdnejhdaa
