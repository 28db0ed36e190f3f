/-
  Chapter 10 at the top: a specification and a wafer of which the thickness is open, by names.
-/
import Derived.Test.YtjfgbdmdnejhdaaDoorFitW
import Derived.Test.YtjfgbdmdnejhdaaDoorFitU
set_option linter.unusedSimpArgs false
set_option linter.unusedVariables false
namespace Go.Proofs.YtjfgbdmdnejhdaaDoor
open Go.RowKit Go.Vm
set_option maxRecDepth 1000000
def u8 (n : Nat) : Value := .int .u8 n
def limT (a b : Int) : List Value := [.int .i64 (-1000000000000000), .int .i64 1000000000000000, .int .i64 (-1000000000000000), .int .i64 1000000000000000, .int .i64 (-1000000000000000), .int .i64 1000000000000000, .int .i64 a, .int .i64 b, .int .i64 (-1000000000000000), .int .i64 1000000000000000, .int .i64 (-1000000000000000), .int .i64 1000000000000000]
def zerT (a b : Int) : List Value := [.int .i64 0, .int .i64 0, .int .i64 0, .int .i64 0, .int .i64 0, .int .i64 0, .int .i64 a, .int .i64 b, .int .i64 0, .int .i64 0, .int .i64 0, .int .i64 0]
def gau : Value := .string ⟨#[103, 97, 117, 103, 101]⟩
def gauL : List Value := [gau, gau, gau, gau, gau, gau]
def specT (a b : Int) : List Value := limT a b ++ [u8 31]
def wafT (a b : Int) : List Value := zerT a b ++ u8 1 :: gauL
theorem t_open : runV ((aRun Tryd.prog noHook 1000 20).fn 8 [] (Hp 1 [none])) (.agg ⟨specT (-1000000000000000) 1000000000000000⟩) = true := by kernel_rfl
theorem t_plain : runV ((aRun Tryd.prog noHook 1000 20).fn 9 [] (Hp 1 [none])) (.agg ⟨wafT 0 0⟩) = true := by kernel_rfl
theorem ok1 : CallOk Tryd.prog (aRun Tryd.prog noHook 10000 20).rel := aRun_ok v_mixed v_names noHook_ok 10000 20
section
variable {h : AH}
theorem open_f (hs : h.sees 0 = true) : Fc Tryd.prog 8 [] h (.agg ⟨specT (-1000000000000000) 1000000000000000⟩) h := by
  obtain ⟨h1, hr⟩ := runV_ok t_open
  exact (Fc.of_run (aRun_ok v_mixed v_names noHook_ok 1000 20) hr).plainRun rfl rfl hs
theorem plain_f (hs : h.sees 0 = true) : Fc Tryd.prog 9 [] h (.agg ⟨wafT 0 0⟩) h := by
  obtain ⟨h1, hr⟩ := runV_ok t_plain
  exact (Fc.of_run (aRun_ok v_mixed v_names noHook_ok 1000 20) hr).plainRun rfl rfl hs
theorem t_with : runV ((aRun Tryd.prog noHook 10000 20).fn 34 [.int .i64 1, .int .i64 1, .int .i64 31] (Hp 1 [none])) (.bool true) = true := by kernel_rfl
theorem with_f (hs : h.sees 0 = true) : Fc Tryd.prog 34 [.int .i64 1, .int .i64 1, .int .i64 31] h (.bool true) h := by
  obtain ⟨h1, hr⟩ := runV_ok t_with
  exact (Fc.of_run ok1 hr).plainRun rfl rfl hs
end
abbrev wafO (a b : Int) : Option AObj := some (.cells ⟨wafT a b, 1, false⟩)
abbrev speO (a b : Int) : Option AObj := some (.cells ⟨specT a b, 1, false⟩)
theorem u_a6 : Tryd.prog.underlying 53 = some (.array 6 9) := by kernel_rfl
theorem i_str : Tryd.prog.info? 9 = some ((Tryd.prog.info? 9).get rfl) := by kernel_rfl
theorem u_r6 : Tryd.prog.underlying 48 = some (.array 6 23) := by kernel_rfl
theorem i_rng : Tryd.prog.info? 23 = some ((Tryd.prog.info? 23).get rfl) := by kernel_rfl
theorem t_gau (a b : Int) : runV ((aRun Tryd.prog noHook 10000 20).fn 35 [.slice (some ⟨1, 13, none⟩) 6 6, .func (.func 36) #[] #[]] (Hp 1 [none, wafO a b])) (.bool false) = true := by kernel_rfl
/-- A range within all bounds. -/
def okR (a b : Int) : Prop := -1000000000000000 ≤ a ∧ a ≤ b ∧ b ≤ 1000000000000000
abbrev fO (g : Nat) : Value := .func (.func g) #[] #[]
/- boule/order.areRanges$1 · slots 18 · names 0:r 1:r · results [2] -/
def ir43_r0 : IC := .reg [⟨some 1, none, false, .box (.t 0)⟩,
  ⟨some 2, none, false, .mv (.k (.bool false))⟩] (some [1])
def ir43_r1 : IC := .reg [⟨some 3, none, false, .fad 0 (.t 1)⟩,
  ⟨some 4, none, false, .ldc (.t 3)⟩,
  ⟨some 5, none, false, .cmp .lss (.t 4) (.k (.int .i64 (-1000000000000000)))⟩,
  ⟨some 6, none, false, .mv (.t 5)⟩,
  ⟨some 7, some (6, false), false, .fad 0 (.t 1)⟩,
  ⟨some 8, some (6, false), false, .ldc (.t 7)⟩,
  ⟨some 9, some (6, false), false, .fad 1 (.t 1)⟩,
  ⟨some 10, some (6, false), false, .ldc (.t 9)⟩,
  ⟨some 11, some (6, false), false, .cmp .gtr (.t 8) (.t 10)⟩,
  ⟨some 12, none, false, .pick (.t 6) (.k (.bool true)) (.t 11)⟩,
  ⟨some 13, none, false, .mv (.t 12)⟩,
  ⟨some 14, some (13, false), false, .fad 1 (.t 1)⟩,
  ⟨some 15, some (13, false), false, .ldc (.t 14)⟩,
  ⟨some 16, some (13, false), false, .cmp .gtr (.t 15) (.k (.int .i64 1000000000000000))⟩,
  ⟨some 17, none, false, .pick (.t 13) (.k (.bool true)) (.t 16)⟩,
  ⟨some 2, none, false, .mv (.t 17)⟩] (some [2])
def ir43_1 : IC := .seq ir43_r1 .ret
def ir43_2 : IC := .seq ir43_r0 ir43_1
def ir43 : IC := ir43_2
theorem fn43 : FnIs Tryd.prog 43 ir43 18 [.tmp 2] := ⟨Tryd.f43, Tryd.f43.body.getD .skip, Tryd.func43, by kernel_rfl, by kernel_rfl, by kernel_rfl, by kernel_rfl⟩
/- slices.IndexFunc[[]boule/api.Range,boule/api.Range] · slots 19 · names 0:s 1:f 2:s 3:f 5:i · results [4] -/
def ir47_r0 : IC := .reg [⟨some 4, none, false, .mv (.k (.int .i64 0))⟩] (some [0, 1])
def ir47_r1 : IC := .reg [⟨some 6, none, false, .mv (.t 0)⟩,
  ⟨some 7, none, false, .len (.t 6)⟩,
  ⟨some 8, none, false, .mv (.k (.int .i64 0))⟩] (some [0, 1, 7, 8])
def ir47_r2 : IC := .reg [⟨some 9, none, false, .cmp .lss (.t 8) (.t 7)⟩] (some [0, 1, 7, 8, 9])
def ir47_1 : IC := .cond (.t 9) .skip (.exit 0)
def ir47_r3 : IC := .reg [⟨some 10, none, false, .mv (.t 8)⟩,
  ⟨some 5, none, false, .mv (.t 10)⟩] (some [0, 1, 5, 7, 8])
def ir47_r4 : IC := .reg [⟨some 11, none, false, .mv (.t 1)⟩,
  ⟨some 12, none, false, .mv (.t 0)⟩,
  ⟨some 13, none, false, .mv (.t 5)⟩,
  ⟨some 14, none, false, .iad 2 (.t 12) (.t 13)⟩,
  ⟨some 15, none, false, .lda 2 (.t 14)⟩,
  ⟨some 16, none, false, .call (.t 11) [(.t 15)]⟩] (some [0, 1, 5, 7, 8, 16])
def ir47_r5 : IC := .reg [⟨some 17, none, false, .mv (.t 5)⟩,
  ⟨some 4, none, false, .mv (.t 17)⟩] (some [4])
def ir47_2 : IC := .seq ir47_r5 .ret
def ir47_3 : IC := .cond (.t 16) ir47_2 .skip
def ir47_4 : IC := .seq ir47_r4 ir47_3
def ir47_5 : IC := .seq ir47_r3 ir47_4
def ir47_6 : IC := .block 1 ir47_5
def ir47_r6 : IC := .reg [⟨some 18, none, false, .ar .add (.t 8) (.k (.int .i64 1))⟩,
  ⟨some 8, none, false, .mv (.t 18)⟩] (some [0, 1, 7, 8])
def ir47_7 : IC := .seq ir47_6 ir47_r6
def ir47_8 : IC := .seq ir47_1 ir47_7
def ir47_9 : IC := .seq ir47_r2 ir47_8
def ir47_10 : IC := .loop ir47_9
def ir47_11 : IC := .block 0 ir47_10
def ir47_12 : IC := .seq ir47_r1 ir47_11
def ir47_r7 : IC := .reg [⟨some 4, none, false, .mv (.k (.int .i64 (-1)))⟩] (some [4])
def ir47_13 : IC := .seq ir47_r7 .ret
def ir47_14 : IC := .seq ir47_12 ir47_13
def ir47_15 : IC := .seq ir47_r0 ir47_14
def ir47 : IC := ir47_15
theorem fn47 : FnIs Tryd.prog 47 ir47 19 [.tmp 4] := ⟨Tryd.f47, Tryd.f47.body.getD .skip, Tryd.func47, by kernel_rfl, by kernel_rfl, by kernel_rfl, by kernel_rfl⟩
/- slices.ContainsFunc[[]boule/api.Range,boule/api.Range] · slots 9 · names 0:s 1:f 2:s 3:f · results [4] -/
def ir42_r0 : IC := .reg [⟨some 4, none, false, .mv (.k (.bool false))⟩] (some [0, 1])
def ir42_r1 : IC := .reg [⟨some 5, none, false, .mv (.t 0)⟩,
  ⟨some 6, none, false, .mv (.t 1)⟩,
  ⟨some 7, none, false, .call (.f 47) [(.t 5), (.t 6)]⟩,
  ⟨some 8, none, false, .cmp .geq (.t 7) (.k (.int .i64 0))⟩,
  ⟨some 4, none, false, .mv (.t 8)⟩] (some [4])
def ir42_1 : IC := .seq ir42_r1 .ret
def ir42_2 : IC := .seq ir42_r0 ir42_1
def ir42 : IC := ir42_2
theorem fn42 : FnIs Tryd.prog 42 ir42 9 [.tmp 4] := ⟨Tryd.f42, Tryd.f42.body.getD .skip, Tryd.func42, by kernel_rfl, by kernel_rfl, by kernel_rfl, by kernel_rfl⟩
/- boule/order.areRanges · slots 6 · names 0:l 1:l · results [2] -/
def ir33_r0 : IC := .reg [⟨some 1, none, false, .box (.t 0)⟩,
  ⟨some 2, none, false, .mv (.k (.bool false))⟩] (some [1])
def ir33_r1 : IC := .reg [⟨some 3, none, false, .gen (.slice 48 (.tmp 1) none none none)⟩,
  ⟨some 4, none, false, .call (.f 42) [(.t 3), (.f 43)]⟩,
  ⟨some 5, none, false, .not (.t 4)⟩,
  ⟨some 2, none, false, .mv (.t 5)⟩] (some [2])
def ir33_1 : IC := .seq ir33_r1 .ret
def ir33_2 : IC := .seq ir33_r0 ir33_1
def ir33 : IC := ir33_2
theorem fn33 : FnIs Tryd.prog 33 ir33 6 [.tmp 2] := ⟨Tryd.f33, Tryd.f33.body.getD .skip, Tryd.func33, by kernel_rfl, by kernel_rfl, by kernel_rfl, by kernel_rfl⟩
/- boule/order.isSpec · slots 11 · names 0:s 1:s · results [2] -/
def ir20_r0 : IC := .reg [⟨some 1, none, false, .box (.t 0)⟩,
  ⟨some 2, none, false, .mv (.k (.bool false))⟩] (some [1])
def ir20_r1 : IC := .reg [⟨some 3, none, false, .fad 0 (.t 1)⟩,
  ⟨some 4, none, false, .lda 12 (.t 3)⟩,
  ⟨some 5, none, false, .call (.f 33) [(.t 4)]⟩,
  ⟨some 6, none, false, .mv (.t 5)⟩,
  ⟨some 7, some (6, true), false, .fad 12 (.t 1)⟩,
  ⟨some 8, some (6, true), false, .ldc (.t 7)⟩,
  ⟨some 9, some (6, true), false, .cmp .leq (.t 8) (.k (.int .u8 31))⟩,
  ⟨some 10, none, false, .pick (.t 6) (.t 9) (.k (.bool false))⟩,
  ⟨some 2, none, false, .mv (.t 10)⟩] (some [2])
def ir20_1 : IC := .seq ir20_r1 .ret
def ir20_2 : IC := .seq ir20_r0 ir20_1
def ir20 : IC := ir20_2
theorem fn20 : FnIs Tryd.prog 20 ir20 11 [.tmp 2] := ⟨Tryd.f20, Tryd.f20.body.getD .skip, Tryd.func20, by kernel_rfl, by kernel_rfl, by kernel_rfl, by kernel_rfl⟩
/- boule/order.isWafer · slots 18 · names 0:w 1:w · results [2] -/
def ir21_r0 : IC := .reg [⟨some 1, none, false, .box (.t 0)⟩,
  ⟨some 2, none, false, .mv (.k (.bool false))⟩] (some [1])
def ir21_r1 : IC := .reg [⟨some 3, none, false, .fad 0 (.t 1)⟩,
  ⟨some 4, none, false, .lda 12 (.t 3)⟩,
  ⟨some 5, none, false, .call (.f 33) [(.t 4)]⟩,
  ⟨some 6, none, false, .mv (.t 5)⟩,
  ⟨some 7, some (6, true), false, .fad 12 (.t 1)⟩,
  ⟨some 8, some (6, true), false, .ldc (.t 7)⟩,
  ⟨some 9, some (6, true), false, .conv .i64 (.t 8)⟩,
  ⟨some 10, some (6, true), false, .call (.f 34) [(.t 9), (.k (.int .i64 1)), (.k (.int .i64 31))]⟩,
  ⟨some 11, none, false, .pick (.t 6) (.t 10) (.k (.bool false))⟩,
  ⟨some 12, none, false, .mv (.t 11)⟩,
  ⟨some 13, some (12, true), false, .fad 13 (.t 1)⟩,
  ⟨some 14, some (12, true), false, .gen (.slice 53 (.tmp 13) none none none)⟩,
  ⟨some 15, some (12, true), false, .call (.f 35) [(.t 14), (.f 36)]⟩,
  ⟨some 16, some (12, true), false, .not (.t 15)⟩,
  ⟨some 17, none, false, .pick (.t 12) (.t 16) (.k (.bool false))⟩,
  ⟨some 2, none, false, .mv (.t 17)⟩] (some [2])
def ir21_1 : IC := .seq ir21_r1 .ret
def ir21_2 : IC := .seq ir21_r0 ir21_1
def ir21 : IC := ir21_2
theorem fn21 : FnIs Tryd.prog 21 ir21 18 [.tmp 2] := ⟨Tryd.f21, Tryd.f21.body.getD .skip, Tryd.func21, by kernel_rfl, by kernel_rfl, by kernel_rfl, by kernel_rfl⟩
theorem bad_f {a b : Int} (o : okR a b) {h : AH} (hs : h.sees 0 = true) : Fc Tryd.prog 43 [.agg #[.int .i64 a, .int .i64 b]] h (.bool false) h := by
  refine Fc.lift0 ?_ rfl rfl hs
  refine Fc.intro0 fn43 (by simp) rfl rfl ?_; simp only [argF]
  obtain ⟨o1, o2, o3⟩ := o
  have n1 : ¬ a < -1000000000000000 := by omega
  have n2 : ¬ a > b := by omega
  have n3 : ¬ b > 1000000000000000 := by omega
  refine ITri.seq ?_
  refine ITri.reg pok ?_; simp -implicitDefEqProofs (disch := first | decide | exact of_eq_true (eq_true rfl) | omega | assumption) only [ ↓vcD, vcE, ↓vcG, vcF, evs, evP, evB, intsOf, fillC, Value.cells, pt, Value.oneCell', reduceIte, reduceCtorEq, Nat.reduceEqDiff, Nat.reduceAdd, Nat.reduceMul, Nat.reduceLT, Nat.reduceBEq, Nat.reduceLeDiff, Nat.reduceSub] -- r0
  refine ITri.seq ?_
  refine ITri.reg pok ?_; simp -implicitDefEqProofs (disch := first | decide | exact of_eq_true (eq_true rfl) | omega | assumption) only [n1, n2, n3, decide_false,  ↓vcD, vcE, ↓vcG, vcF, evs, evP, evB, intsOf, fillC, Value.cells, pt, Value.oneCell', reduceIte, reduceCtorEq, Nat.reduceEqDiff, Nat.reduceAdd, Nat.reduceMul, Nat.reduceLT, Nat.reduceBEq, Nat.reduceLeDiff, Nat.reduceSub] -- r1
  refine ITri.ret ?_; exact EndR.plain (by simp) (by rfl) (by rfl) (by rfl)
section
variable {A B : List Int} {m c : Nat}
theorem ix_c (hok : ∀ i, i < m → okR (nth A i) (nth B i)) (hm : m ≤ 1000) : Fc Tryd.prog 47 [.slice (some ⟨1, 0, none⟩) m c, fO 43] (Hp 2 [none, some (.cells ⟨pairs A B m, 0, false⟩)]) (.int .i64 (-1)) (Hp 2 [none, some (.cells ⟨pairs A B m, 0, false⟩)]) := by
  refine Fc.intro0 fn47 (by simp) rfl rfl ?_; simp only [argF]
  refine ITri.seq ?_
  refine ITri.reg pok ?_; simp -implicitDefEqProofs (disch := first | decide | exact of_eq_true (eq_true rfl) | omega | assumption) only [ ↓vcD, vcE, ↓vcG, vcF, evs, evP, evB, intsOf, fillC, Value.cells, pt, Value.oneCell', reduceIte, reduceCtorEq, Nat.reduceEqDiff, Nat.reduceAdd, Nat.reduceMul, Nat.reduceLT, Nat.reduceBEq, Nat.reduceLeDiff, Nat.reduceSub] -- r0
  refine ITri.seq ?_
  refine ITri.seq ?_
  refine ITri.reg pok ?_; simp -implicitDefEqProofs (disch := first | decide | exact of_eq_true (eq_true rfl) | omega | assumption) only [ ↓vcD, vcE, ↓vcG, vcF, evs, evP, evB, intsOf, fillC, Value.cells, pt, Value.oneCell', reduceIte, reduceCtorEq, Nat.reduceEqDiff, Nat.reduceAdd, Nat.reduceMul, Nat.reduceLT, Nat.reduceBEq, Nat.reduceLeDiff, Nat.reduceSub] -- r1
  refine ITri.block ?_ -- 0
  refine ITri.loop (fun k : Nat => [(0, .slice (some ⟨1, 0, none⟩) m c), (1, fO 43), (7, .int .i64 m), (8, .int .i64 k)]) (fun _ => []) (fun k => Hp 2 [none, some (.cells ⟨pairs A B m, 0, false⟩)]) (fun k => k ≤ m) (fun k => m - k) 0 (Nat.zero_le _) (Wk.sub ⟨rfl, rfl, rfl, rfl, trivial⟩) fun k hk => ?_
  refine ITri.seq ?_
  refine ITri.reg pok ?_; simp -implicitDefEqProofs (disch := first | decide | exact of_eq_true (eq_true rfl) | omega | assumption) only [ ↓vcD, vcE, ↓vcG, vcF, evs, evP, evB, intsOf, fillC, Value.cells, pt, Value.oneCell', reduceIte, reduceCtorEq, Nat.reduceEqDiff, Nat.reduceAdd, Nat.reduceMul, Nat.reduceLT, Nat.reduceBEq, Nat.reduceLeDiff, Nat.reduceSub] -- r2
  refine ITri.seq ?_
  refine ITri.condD (by rfl) (fun h1 => ?_) (fun h1 => ?_)
  · have h2 : k < m := by omega
    have g1 := pairs_at A B m k h2
    have hk1 : (k : Int) + 1 = ((k + 1 : Nat) : Int) := by omega
    refine ITri.skip ?_; simp only [SeqQ_normal, BlkQ_normal]
    refine ITri.seq ?_
    refine ITri.block ?_
    refine ITri.seq ?_
    refine ITri.reg pok ?_; simp -implicitDefEqProofs (disch := first | decide | exact of_eq_true (eq_true rfl) | omega | assumption) only [ ↓vcD, vcE, ↓vcG, vcF, evs, evP, evB, intsOf, fillC, Value.cells, pt, Value.oneCell', reduceIte, reduceCtorEq, Nat.reduceEqDiff, Nat.reduceAdd, Nat.reduceMul, Nat.reduceLT, Nat.reduceBEq, Nat.reduceLeDiff, Nat.reduceSub]
    refine ITri.seq ?_
    refine ITri.reg pok ?_; simp -implicitDefEqProofs (disch := first | decide | exact of_eq_true (eq_true rfl) | omega | assumption) only [g1,  ↓vcD, vcE, ↓vcG, vcF, evs, evP, evB, intsOf, fillC, Value.cells, pt, Value.oneCell', reduceIte, reduceCtorEq, Nat.reduceEqDiff, Nat.reduceAdd, Nat.reduceMul, Nat.reduceLT, Nat.reduceBEq, Nat.reduceLeDiff, Nat.reduceSub]
    refine ⟨_, _, bad_f (hok k h2) (sees0 rfl (of_decide_eq_true rfl)), ?_⟩
    try simp -implicitDefEqProofs (disch := first | decide | exact of_eq_true (eq_true rfl) | omega | assumption) only [ ↓vcD, vcE, ↓vcG, vcF, evs, evP, evB, intsOf, fillC, Value.cells, pt, Value.oneCell', reduceIte, reduceCtorEq, Nat.reduceEqDiff, Nat.reduceAdd, Nat.reduceMul, Nat.reduceLT, Nat.reduceBEq, Nat.reduceLeDiff, Nat.reduceSub]
    refine ITri.cond (v := false) rfl (fun h => by cases h) (fun _ => ?_); refine ITri.skip ?_; simp only [SeqQ_normal, BlkQ_normal]
    refine ITri.reg pok ?_; simp -implicitDefEqProofs (disch := first | decide | exact of_eq_true (eq_true rfl) | omega | assumption) only [hk1,  ↓vcD, vcE, ↓vcG, vcF, evs, evP, evB, intsOf, fillC, Value.cells, pt, Value.oneCell', reduceIte, reduceCtorEq, Nat.reduceEqDiff, Nat.reduceAdd, Nat.reduceMul, Nat.reduceLT, Nat.reduceBEq, Nat.reduceLeDiff, Nat.reduceSub]
    exact LoopQ.next (k + 1) (by omega) (by omega) (Wk.sub ⟨rfl, rfl, rfl, rfl, trivial⟩)
  refine ITri.exit ?_; try simp -implicitDefEqProofs (disch := first | decide | exact of_eq_true (eq_true rfl) | omega | assumption) only [ ↓vcD, vcE, ↓vcG, vcF, evs, evP, evB, intsOf, fillC, Value.cells, pt, Value.oneCell', reduceIte, reduceCtorEq, Nat.reduceEqDiff, Nat.reduceAdd, Nat.reduceMul, Nat.reduceLT, Nat.reduceBEq, Nat.reduceLeDiff, Nat.reduceSub]
  refine ITri.seq ?_
  refine ITri.reg pok ?_; simp -implicitDefEqProofs (disch := first | decide | exact of_eq_true (eq_true rfl) | omega | assumption) only [ ↓vcD, vcE, ↓vcG, vcF, evs, evP, evB, intsOf, fillC, Value.cells, pt, Value.oneCell', reduceIte, reduceCtorEq, Nat.reduceEqDiff, Nat.reduceAdd, Nat.reduceMul, Nat.reduceLT, Nat.reduceBEq, Nat.reduceLeDiff, Nat.reduceSub]
  refine ITri.ret ?_; exact EndR.plain (by simp) (by rfl) (by rfl) (by rfl)
theorem ct_f (hok : ∀ i, i < m → okR (nth A i) (nth B i)) (hm : m ≤ 1000) {h : AH} {k sz : Nat} {op : Bool} (h0 : h.sees 0 = true) (hg : h.get k = some (.cells ⟨pairs A B m, sz, op⟩)) : Fc Tryd.prog 42 [.slice (some ⟨k, 0, none⟩) m c, fO 43] h (.bool false) h := by
  refine Fc.lift1o (os := []) (mk := fun ss => [] ++ ss ++ [fO 43]) (mkv := fun _ => .bool false) (n := m) ?_ (MkL.mid rfl rfl) (MkV.const rfl) (pairs_no _ _ _) (fun o h => by cases h) h0 hg
  refine Fc.intro0 fn42 (by simp) rfl rfl ?_; simp only [argF, List.cons_append, List.nil_append]
  have IX := ix_c (c := c) hok hm
  refine ITri.seq ?_
  refine ITri.reg pok ?_; simp -implicitDefEqProofs (disch := first | decide | exact of_eq_true (eq_true rfl) | omega | assumption) only [ ↓vcD, vcE, ↓vcG, vcF, evs, evP, evB, intsOf, fillC, Value.cells, pt, Value.oneCell', reduceIte, reduceCtorEq, Nat.reduceEqDiff, Nat.reduceAdd, Nat.reduceMul, Nat.reduceLT, Nat.reduceBEq, Nat.reduceLeDiff, Nat.reduceSub] -- r0
  refine ITri.seq ?_
  refine ITri.reg pok ?_; simp -implicitDefEqProofs (disch := first | decide | exact of_eq_true (eq_true rfl) | omega | assumption) only [ ↓vcD, vcE, ↓vcG, vcF, evs, evP, evB, intsOf, fillC, Value.cells, pt, Value.oneCell', reduceIte, reduceCtorEq, Nat.reduceEqDiff, Nat.reduceAdd, Nat.reduceMul, Nat.reduceLT, Nat.reduceBEq, Nat.reduceLeDiff, Nat.reduceSub] -- r1
  refine ⟨_, _, IX, ?_⟩
  try simp -implicitDefEqProofs (disch := first | decide | exact of_eq_true (eq_true rfl) | omega | assumption) only [ ↓vcD, vcE, ↓vcG, vcF, evs, evP, evB, intsOf, fillC, Value.cells, pt, Value.oneCell', reduceIte, reduceCtorEq, Nat.reduceEqDiff, Nat.reduceAdd, Nat.reduceMul, Nat.reduceLT, Nat.reduceBEq, Nat.reduceLeDiff, Nat.reduceSub]
  refine ITri.ret ?_; exact EndR.plain (by simp) (by rfl) (by rfl) (by rfl)
theorem are_f (hok : ∀ i, i < 6 → okR (nth A i) (nth B i)) {h : AH} (h0 : h.sees 0 = true) : Fc Tryd.prog 33 [.agg ⟨pairs A B 6⟩] h (.bool true) h := by
  refine Fc.lift0 ?_ (by simp [noAddrL, noAddr, noAddrA, pairs_no]) rfl h0
  refine Fc.intro0 fn33 (by simp) rfl rfl ?_; simp only [argF]
  refine ITri.seq ?_
  refine ITri.reg pok ?_; simp -implicitDefEqProofs (disch := first | decide | exact of_eq_true (eq_true rfl) | omega | assumption) only [ ↓vcD, vcE, ↓vcG, vcF, evs, evP, evB, intsOf, fillC, Value.cells, pt, Value.oneCell', reduceIte, reduceCtorEq, Nat.reduceEqDiff, Nat.reduceAdd, Nat.reduceMul, Nat.reduceLT, Nat.reduceBEq, Nat.reduceLeDiff, Nat.reduceSub] -- r0
  refine ITri.seq ?_
  refine ITri.reg pok ?_; simp -implicitDefEqProofs (disch := first | decide | exact of_eq_true (eq_true rfl) | omega | assumption) only [ ↓vcD, vcE, ↓vcG, vcF, evs, evP, evB, intsOf, fillC, Value.cells, pt, Value.oneCell', reduceIte, reduceCtorEq, Nat.reduceEqDiff, Nat.reduceAdd, Nat.reduceMul, Nat.reduceLT, Nat.reduceBEq, Nat.reduceLeDiff, Nat.reduceSub] -- r1
  refine gen_arr u_r6 i_rng rfl (by decide) (by unfold openB; omega) ?_
  try simp -implicitDefEqProofs (disch := first | decide | exact of_eq_true (eq_true rfl) | omega | assumption) only [ ↓vcD, vcE, ↓vcG, vcF, evs, evP, evB, intsOf, fillC, Value.cells, pt, Value.oneCell', reduceIte, reduceCtorEq, Nat.reduceEqDiff, Nat.reduceAdd, Nat.reduceMul, Nat.reduceLT, Nat.reduceBEq, Nat.reduceLeDiff, Nat.reduceSub]
  refine ⟨_, _, ct_f hok (by decide) (sees0 rfl (of_decide_eq_true rfl)) (get_hq rfl rfl), ?_⟩
  simp -implicitDefEqProofs (disch := first | decide | exact of_eq_true (eq_true rfl) | omega | assumption) only [Bool.not_false,  ↓vcD, vcE, ↓vcG, vcF, evs, evP, evB, intsOf, fillC, Value.cells, pt, Value.oneCell', reduceIte, reduceCtorEq, Nat.reduceEqDiff, Nat.reduceAdd, Nat.reduceMul, Nat.reduceLT, Nat.reduceBEq, Nat.reduceLeDiff, Nat.reduceSub]
  refine ITri.ret ?_; exact EndR.plain (by simp) (by rfl) (by rfl) (by rfl)
end
section
variable {a b : Int}
theorem lim_p : limT a b = pairs [-1000000000000000, -1000000000000000, -1000000000000000, a, -1000000000000000, -1000000000000000] [1000000000000000, 1000000000000000, 1000000000000000, b, 1000000000000000, 1000000000000000] 6 := rfl
theorem zer_p : zerT a b = pairs [0, 0, 0, a, 0, 0] [0, 0, 0, b, 0, 0] 6 := rfl
theorem okR0 : okR 0 0 := ⟨by decide, by decide, by decide⟩
theorem okR1 : okR (-1000000000000000) 1000000000000000 := ⟨by decide, by decide, by decide⟩
theorem six {p : Nat → Prop} (h0 : p 0) (h1 : p 1) (h2 : p 2) (h3 : p 3) (h4 : p 4) (h5 : p 5) : ∀ i, i < 6 → p i
  | 0, _ => h0
  | 1, _ => h1
  | 2, _ => h2
  | 3, _ => h3
  | 4, _ => h4
  | 5, _ => h5
  | n + 6, h => absurd h (by omega)
theorem areL_f (o : okR a b) {h : AH} (h0 : h.sees 0 = true) : Fc Tryd.prog 33 [.agg ⟨limT a b⟩] h (.bool true) h := by
  rw [lim_p]
  refine are_f (A := [-1000000000000000, -1000000000000000, -1000000000000000, a, -1000000000000000, -1000000000000000]) (B := [1000000000000000, 1000000000000000, 1000000000000000, b, 1000000000000000, 1000000000000000]) ?_ h0
  exact six (p := fun i => okR (nth _ i) (nth _ i)) okR1 okR1 okR1 o okR1 okR1
theorem areZ_f (o : okR a b) {h : AH} (h0 : h.sees 0 = true) : Fc Tryd.prog 33 [.agg ⟨zerT a b⟩] h (.bool true) h := by
  rw [zer_p]
  refine are_f (A := [0, 0, 0, a, 0, 0]) (B := [0, 0, 0, b, 0, 0]) ?_ h0
  exact six (p := fun i => okR (nth _ i) (nth _ i)) okR0 okR0 okR0 o okR0 okR0
theorem isSpec_f (o : okR a b) {h : AH} (h0 : h.sees 0 = true) : Fc Tryd.prog 20 [.agg ⟨specT a b⟩] h (.bool true) h := by
  refine Fc.lift0 ?_ rfl rfl h0
  refine Fc.intro0 fn20 (by simp) rfl rfl ?_; simp only [argF]
  have hT : takeC (specT a b) 0 12 = some (limT a b) := rfl
  have h12 : (specT a b)[12]? = some (.int .u8 31) := rfl
  refine ITri.seq ?_
  refine ITri.reg pok ?_; simp -implicitDefEqProofs (disch := first | decide | exact of_eq_true (eq_true rfl) | omega | assumption) only [ ↓vcD, vcE, ↓vcG, vcF, evs, evP, evB, intsOf, fillC, Value.cells, pt, Value.oneCell', reduceIte, reduceCtorEq, Nat.reduceEqDiff, Nat.reduceAdd, Nat.reduceMul, Nat.reduceLT, Nat.reduceBEq, Nat.reduceLeDiff, Nat.reduceSub] -- r0
  refine ITri.seq ?_
  refine ITri.reg pok ?_; simp -implicitDefEqProofs (disch := first | decide | exact of_eq_true (eq_true rfl) | omega | assumption) only [hT,  ↓vcD, vcE, ↓vcG, vcF, evs, evP, evB, intsOf, fillC, Value.cells, pt, Value.oneCell', reduceIte, reduceCtorEq, Nat.reduceEqDiff, Nat.reduceAdd, Nat.reduceMul, Nat.reduceLT, Nat.reduceBEq, Nat.reduceLeDiff, Nat.reduceSub] -- r1
  refine ⟨_, _, areL_f o (sees0 rfl (of_decide_eq_true rfl)), ?_⟩
  simp -implicitDefEqProofs (disch := first | decide | exact of_eq_true (eq_true rfl) | omega | assumption) only [h12,  ↓vcD, vcE, ↓vcG, vcF, evs, evP, evB, intsOf, fillC, Value.cells, pt, Value.oneCell', reduceIte, reduceCtorEq, Nat.reduceEqDiff, Nat.reduceAdd, Nat.reduceMul, Nat.reduceLT, Nat.reduceBEq, Nat.reduceLeDiff, Nat.reduceSub]
  refine ITri.ret ?_; exact EndR.plain (by simp) (by rfl) (by rfl) (by rfl)
theorem isWafer_c (o : okR a b) : Fc Tryd.prog 21 [.agg ⟨wafT a b⟩] (Hp 1 [none]) (.bool true) (Hp 1 [none]) := by
  refine Fc.intro0 fn21 (by simp) rfl rfl ?_; simp only [argF]
  refine ITri.seq ?_
  refine ITri.reg pok ?_; simp -implicitDefEqProofs (disch := first | decide | exact of_eq_true (eq_true rfl) | omega | assumption) only [ ↓vcD, vcE, ↓vcG, vcF, evs, evP, evB, intsOf, fillC, Value.cells, pt, Value.oneCell', reduceIte, reduceCtorEq, Nat.reduceEqDiff, Nat.reduceAdd, Nat.reduceMul, Nat.reduceLT, Nat.reduceBEq, Nat.reduceLeDiff, Nat.reduceSub] -- r0
  refine ITri.seq ?_
  obtain ⟨hg, hr⟩ := runV_ok (t_gau a b)
  have T := Fc.of_run ok1 hr
  have hT : takeC (wafT a b) 0 12 = some (zerT a b) := rfl
  have h12 : (wafT a b)[12]? = some (.int .u8 1) := rfl
  refine ITri.reg pok ?_; simp -implicitDefEqProofs (disch := first | decide | exact of_eq_true (eq_true rfl) | omega | assumption) only [hT,  ↓vcD, vcE, ↓vcG, vcF, evs, evP, evB, intsOf, fillC, Value.cells, pt, Value.oneCell', reduceIte, reduceCtorEq, Nat.reduceEqDiff, Nat.reduceAdd, Nat.reduceMul, Nat.reduceLT, Nat.reduceBEq, Nat.reduceLeDiff, Nat.reduceSub] -- r1
  refine ⟨_, _, areZ_f o (sees0 rfl (of_decide_eq_true rfl)), ?_⟩
  simp -implicitDefEqProofs (disch := first | decide | exact of_eq_true (eq_true rfl) | omega | assumption) only [h12,  ↓vcD, vcE, ↓vcG, vcF, evs, evP, evB, intsOf, fillC, Value.cells, pt, Value.oneCell', reduceIte, reduceCtorEq, Nat.reduceEqDiff, Nat.reduceAdd, Nat.reduceMul, Nat.reduceLT, Nat.reduceBEq, Nat.reduceLeDiff, Nat.reduceSub]
  refine ⟨_, _, with_f (sees0 rfl (of_decide_eq_true rfl)), ?_⟩
  try simp -implicitDefEqProofs (disch := first | decide | exact of_eq_true (eq_true rfl) | omega | assumption) only [ ↓vcD, vcE, ↓vcG, vcF, evs, evP, evB, intsOf, fillC, Value.cells, pt, Value.oneCell', reduceIte, reduceCtorEq, Nat.reduceEqDiff, Nat.reduceAdd, Nat.reduceMul, Nat.reduceLT, Nat.reduceBEq, Nat.reduceLeDiff, Nat.reduceSub]
  refine gen_arr u_a6 i_str rfl (by decide) (by unfold openB; omega) ?_
  try simp -implicitDefEqProofs (disch := first | decide | exact of_eq_true (eq_true rfl) | omega | assumption) only [ ↓vcD, vcE, ↓vcG, vcF, evs, evP, evB, intsOf, fillC, Value.cells, pt, Value.oneCell', reduceIte, reduceCtorEq, Nat.reduceEqDiff, Nat.reduceAdd, Nat.reduceMul, Nat.reduceLT, Nat.reduceBEq, Nat.reduceLeDiff, Nat.reduceSub]
  refine ⟨_, _, T, ?_⟩
  try simp -implicitDefEqProofs (disch := first | decide | exact of_eq_true (eq_true rfl) | omega | assumption) only [ ↓vcD, vcE, ↓vcG, vcF, evs, evP, evB, intsOf, fillC, Value.cells, pt, Value.oneCell', reduceIte, reduceCtorEq, Nat.reduceEqDiff, Nat.reduceAdd, Nat.reduceMul, Nat.reduceLT, Nat.reduceBEq, Nat.reduceLeDiff, Nat.reduceSub]
  refine ITri.ret ?_; exact EndR.plain (by simp) (by rfl) (by rfl) (by rfl)
theorem isWafer_f (o : okR a b) {h : AH} (hs : h.sees 0 = true) : Fc Tryd.prog 21 [.agg ⟨wafT a b⟩] h (.bool true) h := Fc.lift0 (isWafer_c o) rfl rfl hs
end
end Go.Proofs.YtjfgbdmdnejhdaaDoor
