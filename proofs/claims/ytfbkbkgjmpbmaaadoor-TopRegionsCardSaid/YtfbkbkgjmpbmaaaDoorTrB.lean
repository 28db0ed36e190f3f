/-
  Chapter 10 at the top: specifications and wafers, by names.
-/
import Derived.Test.YtfbkbkgjmpbmaaaDoorTrA
set_option linter.unusedSimpArgs false
set_option linter.unusedVariables false
namespace Go.Vm
open Go Go.RowKit
section
variable {P : Program} {w : Bool} {t el : TypeId} {f : TypeInfo} {s k o n : Nat} {l : Fr} {h : AH} {K : Value → AH → Prop}
/-- An array as a slice. -/
theorem gen_arr (hu : P.underlying t = some (.array n el)) (hi : P.info? el = some f) (hl : lk l s = some (.pointer (some ⟨k, o, none⟩))) (hn : 0 < n) (hno : n < openB) (q : K (.slice (some ⟨k, o, none⟩) n n) h) : iStep P w (.gen (.slice t (.tmp s) none none none)) l h K := by
  refine ⟨_, _, ?_, q⟩
  have e1 : aEnv (trOf l) (.tmp s) = some (.pointer (some ⟨k, o, none⟩)) := by simp only [aEnv, trOf_get, hl]
  have e4 : aOptV (aEnv (trOf l)) none = some none := rfl
  have hv : aSlice P t (.pointer (some ⟨k, o, none⟩)) none none none = some (.slice (some ⟨k, o, none⟩) n n) := by
    have n1 : natOf none 0 = some 0 := rfl
    have n2 : natOf none n = some n := rfl
    simp only [aSlice, hu, hi, n1, n2]
    rw [if_pos ⟨Nat.zero_le _, Nat.le_refl _, Nat.le_refl _, rfl, hno⟩, if_neg (by omega), Nat.zero_mul, Nat.sub_zero]
    simp [Addr.add]
  simp only [aOp, e1, e4, hv]
end
end Go.Vm
namespace Go.Proofs.YtfbkbkgjmpbmaaaDoor
open Go.RowKit Go.Vm
set_option maxRecDepth 1000000
theorem ok1 : CallOk Tryd.prog (aRun Tryd.prog noHook 10000 20).rel := aRun_ok v_mixed v_names noHook_ok 10000 20
section
variable {h : AH} {a s c d : Nat}
theorem judge_f (hc : c < 32) (hd : d < 32) (hs : h.sees 0 = true) : Fc Tryd.prog 6 [u8 c, u8 d] h (.tuple #[u8 (gradeF c d), .int .i64 0]) h := by
  have e1 := List.all_eq_true.1 (List.all_eq_true.1 t_judge c (List.mem_range.2 hc)) d (List.mem_range.2 hd)
  obtain ⟨h1, hr⟩ := runV_ok e1
  exact (Fc.of_run (aRun_ok v_mixed v_names noHook_ok 1000 20) hr).plainRun rfl rfl hs
theorem open_f (hs : h.sees 0 = true) : Fc Tryd.prog 7 [] h (.agg ⟨specL 31⟩) h := by
  obtain ⟨h1, hr⟩ := runV_ok t_open
  exact (Fc.of_run (aRun_ok v_mixed v_names noHook_ok 1000 20) hr).plainRun rfl rfl hs
theorem plain_f (hs : h.sees 0 = true) : Fc Tryd.prog 8 [] h (.agg ⟨wafL 1⟩) h := by
  obtain ⟨h1, hr⟩ := runV_ok t_plain
  exact (Fc.of_run (aRun_ok v_mixed v_names noHook_ok 1000 20) hr).plainRun rfl rfl hs
theorem isSpec_f (ha : a < 32) (hs : h.sees 0 = true) : Fc Tryd.prog 15 [.agg ⟨specL a⟩] h (.bool true) h := by
  have e1 := List.all_eq_true.1 t_spec a (List.mem_range.2 ha)
  obtain ⟨h1, hr⟩ := runV_ok e1
  exact (Fc.of_run ok1 hr).plainRun rfl rfl hs
theorem t_zer : runV ((aRun Tryd.prog noHook 10000 20).fn 21 [.agg ⟨zerL⟩] (Hp 1 [none])) (.bool true) = true := by kernel_rfl
theorem zer_f (hs : h.sees 0 = true) : Fc Tryd.prog 21 [.agg ⟨zerL⟩] h (.bool true) h := by
  obtain ⟨h1, hr⟩ := runV_ok t_zer
  exact (Fc.of_run ok1 hr).plainRun rfl rfl hs
theorem t_with : ((List.range 32).all fun s => Nat.beq s 0 || runV ((aRun Tryd.prog noHook 10000 20).fn 22 [.int .i64 s, .int .i64 1, .int .i64 31] (Hp 1 [none])) (.bool true)) = true := by kernel_rfl
theorem with_f (h1 : 1 ≤ s) (h2 : s < 32) (hs : h.sees 0 = true) : Fc Tryd.prog 22 [.int .i64 s, .int .i64 1, .int .i64 31] h (.bool true) h := by
  have e1 := List.all_eq_true.1 t_with s (List.mem_range.2 h2)
  rw [Bool.or_eq_true] at e1
  rcases e1 with e1 | e1
  · have := Nat.eq_of_beq_eq_true e1; omega
  obtain ⟨h1, hr⟩ := runV_ok e1
  exact (Fc.of_run ok1 hr).plainRun rfl rfl hs
abbrev wafB (s : Nat) : Option AObj := some (.cells ⟨wafL s, 1, false⟩)
theorem u_a6 : Tryd.prog.underlying 41 = some (.array 6 9) := by kernel_rfl
theorem i_str : Tryd.prog.info? 9 = some ((Tryd.prog.info? 9).get rfl) := by kernel_rfl
theorem t_gau (s : Nat) : runV ((aRun Tryd.prog noHook 10000 20).fn 23 [.slice (some ⟨1, 13, none⟩) 6 6, .func (.func 24) #[] #[]] (Hp 1 [none, wafB s])) (.bool false) = true := by kernel_rfl
end
/- boule/order.isWafer · slots 18 · names 0:w 1:w · results [2] -/
def ir16_r0 : IC := .reg [⟨some 1, none, false, .box (.t 0)⟩,
  ⟨some 2, none, false, .mv (.k (.bool false))⟩] (some [1])
def ir16_r1 : IC := .reg [⟨some 3, none, false, .fad 0 (.t 1)⟩,
  ⟨some 4, none, false, .lda 12 (.t 3)⟩,
  ⟨some 5, none, false, .call (.f 21) [(.t 4)]⟩,
  ⟨some 6, none, false, .mv (.t 5)⟩,
  ⟨some 7, some (6, true), false, .fad 12 (.t 1)⟩,
  ⟨some 8, some (6, true), false, .ldc (.t 7)⟩,
  ⟨some 9, some (6, true), false, .conv .i64 (.t 8)⟩,
  ⟨some 10, some (6, true), false, .call (.f 22) [(.t 9), (.k (.int .i64 1)), (.k (.int .i64 31))]⟩,
  ⟨some 11, none, false, .pick (.t 6) (.t 10) (.k (.bool false))⟩,
  ⟨some 12, none, false, .mv (.t 11)⟩,
  ⟨some 13, some (12, true), false, .fad 13 (.t 1)⟩,
  ⟨some 14, some (12, true), false, .gen (.slice 41 (.tmp 13) none none none)⟩,
  ⟨some 15, some (12, true), false, .call (.f 23) [(.t 14), (.f 24)]⟩,
  ⟨some 16, some (12, true), false, .not (.t 15)⟩,
  ⟨some 17, none, false, .pick (.t 12) (.t 16) (.k (.bool false))⟩,
  ⟨some 2, none, false, .mv (.t 17)⟩] (some [2])
def ir16_1 : IC := .seq ir16_r1 .ret
def ir16_2 : IC := .seq ir16_r0 ir16_1
def ir16 : IC := ir16_2
theorem fn16 : FnIs Tryd.prog 16 ir16 18 [.tmp 2] := ⟨Tryd.f16, Tryd.f16.body.getD .skip, Tryd.func16, by kernel_rfl, by kernel_rfl, by kernel_rfl, by kernel_rfl⟩
theorem isWafer_c {s : Nat} (h1 : 1 ≤ s) (h2 : s < 32) : Fc Tryd.prog 16 [.agg ⟨wafL s⟩] (Hp 1 [none]) (.bool true) (Hp 1 [none]) := by
  refine Fc.intro0 fn16 (by simp) rfl rfl ?_; simp only [argF]
  refine ITri.seq ?_
  refine ITri.reg pok ?_; simp -implicitDefEqProofs (disch := first | decide | exact of_eq_true (eq_true rfl) | omega | assumption) only [ ↓vcD, vcE, ↓vcG, vcF, evs, evP, evB, intsOf, fillC, Value.cells, pt, Value.oneCell', reduceIte, reduceCtorEq, Nat.reduceEqDiff, Nat.reduceAdd, Nat.reduceMul, Nat.reduceLT, Nat.reduceBEq, Nat.reduceLeDiff, Nat.reduceSub] -- r0
  refine ITri.seq ?_
  obtain ⟨hg, hr⟩ := runV_ok (t_gau s)
  have T := Fc.of_run ok1 hr
  have hT : takeC (wafL s) 0 12 = some zerL := rfl
  have h12 : (wafL s)[12]? = some (.int .u8 s) := rfl
  refine ITri.reg pok ?_; simp -implicitDefEqProofs (disch := first | decide | exact of_eq_true (eq_true rfl) | omega | assumption) only [hT,  ↓vcD, vcE, ↓vcG, vcF, evs, evP, evB, intsOf, fillC, Value.cells, pt, Value.oneCell', reduceIte, reduceCtorEq, Nat.reduceEqDiff, Nat.reduceAdd, Nat.reduceMul, Nat.reduceLT, Nat.reduceBEq, Nat.reduceLeDiff, Nat.reduceSub] -- r1
  refine ⟨_, _, zer_f (sees0 rfl (of_decide_eq_true rfl)), ?_⟩
  simp -implicitDefEqProofs (disch := first | decide | exact of_eq_true (eq_true rfl) | omega | assumption) only [h12,  ↓vcD, vcE, ↓vcG, vcF, evs, evP, evB, intsOf, fillC, Value.cells, pt, Value.oneCell', reduceIte, reduceCtorEq, Nat.reduceEqDiff, Nat.reduceAdd, Nat.reduceMul, Nat.reduceLT, Nat.reduceBEq, Nat.reduceLeDiff, Nat.reduceSub]
  refine ⟨_, _, with_f h1 h2 (sees0 rfl (of_decide_eq_true rfl)), ?_⟩
  try simp -implicitDefEqProofs (disch := first | decide | exact of_eq_true (eq_true rfl) | omega | assumption) only [ ↓vcD, vcE, ↓vcG, vcF, evs, evP, evB, intsOf, fillC, Value.cells, pt, Value.oneCell', reduceIte, reduceCtorEq, Nat.reduceEqDiff, Nat.reduceAdd, Nat.reduceMul, Nat.reduceLT, Nat.reduceBEq, Nat.reduceLeDiff, Nat.reduceSub]
  refine gen_arr u_a6 i_str rfl (by decide) (by unfold openB; omega) ?_
  try simp -implicitDefEqProofs (disch := first | decide | exact of_eq_true (eq_true rfl) | omega | assumption) only [ ↓vcD, vcE, ↓vcG, vcF, evs, evP, evB, intsOf, fillC, Value.cells, pt, Value.oneCell', reduceIte, reduceCtorEq, Nat.reduceEqDiff, Nat.reduceAdd, Nat.reduceMul, Nat.reduceLT, Nat.reduceBEq, Nat.reduceLeDiff, Nat.reduceSub]
  refine ⟨_, _, T, ?_⟩
  try simp -implicitDefEqProofs (disch := first | decide | exact of_eq_true (eq_true rfl) | omega | assumption) only [ ↓vcD, vcE, ↓vcG, vcF, evs, evP, evB, intsOf, fillC, Value.cells, pt, Value.oneCell', reduceIte, reduceCtorEq, Nat.reduceEqDiff, Nat.reduceAdd, Nat.reduceMul, Nat.reduceLT, Nat.reduceBEq, Nat.reduceLeDiff, Nat.reduceSub]
  refine ITri.ret ?_; exact EndR.plain (by simp) (by rfl) (by rfl) (by rfl)
theorem isWafer_f {s : Nat} (h1 : 1 ≤ s) (h2 : s < 32) {h : AH} (hs : h.sees 0 = true) : Fc Tryd.prog 16 [.agg ⟨wafL s⟩] h (.bool true) h := Fc.lift0 (isWafer_c h1 h2) rfl rfl hs
end Go.Proofs.YtfbkbkgjmpbmaaaDoor
