/-
  Chapter 11, by names: a shop's lots and tools found, whether a lot is ready.
-/
import Derived.Test.YthoigkgjidcklaaWoA3
set_option linter.unusedSimpArgs false
set_option linter.unusedVariables false
namespace Go.Vm
open Go Go.RowKit
section
variable {P : Program} {w : Bool} {t u : TypeId} {s : Nat} {l : Fr} {h : AH} {K : Value → AH → Prop}
def ptrTy (P : Program) (t : TypeId) : Bool := match P.underlying t with
  | some (.pointer _) => true
  | _ => false
theorem ptrTy_el (h : ptrTy P t = true) : ∃ el, P.underlying t = some (.pointer el) := by
  unfold ptrTy at h
  split at h
  · rename_i el e; exact ⟨el, e⟩
  · cases h
/-- A pointer that is not nil. -/
theorem gen_peq {a : Addr} (hu : ptrTy P t = true) (hl : lk l s = some (.pointer (some a))) (q : K (.bool false) h) :
    iStep P w (.gen (.binOp .eql t (.tmp s) (.const (.pointer none)) u)) l h K := by
  obtain ⟨el, hu⟩ := ptrTy_el hu
  refine ⟨_, _, ?_, q⟩
  have e1 : aEnv (trOf l) (.tmp s) = some (.pointer (some a)) := by simp only [aEnv, trOf_get, hl]
  have e2 : aEnv (trOf l) (.const (.pointer none)) = some (.pointer none) := rfl
  simp only [aOp, e1, e2, noAddr, Bool.false_and, Bool.false_eq_true, if_false, aEq, hu]
theorem gen_pne {a : Addr} (hu : ptrTy P t = true) (hl : lk l s = some (.pointer (some a))) (q : K (.bool true) h) :
    iStep P w (.gen (.binOp .neq t (.tmp s) (.const (.pointer none)) u)) l h K := by
  obtain ⟨el, hu⟩ := ptrTy_el hu
  refine ⟨_, _, ?_, q⟩
  have e1 : aEnv (trOf l) (.tmp s) = some (.pointer (some a)) := by simp only [aEnv, trOf_get, hl]
  have e2 : aEnv (trOf l) (.const (.pointer none)) = some (.pointer none) := rfl
  simp only [aOp, e1, e2, noAddr, Bool.false_and, Bool.false_eq_true, if_false, aEq, hu, Bool.not_false]
/-- A nil pointer. -/
theorem gen_pnil (hl : lk l s = some (.pointer none)) (e : pureRun P (do Go.eqGuard .eql t (.tmp s) (.const (.pointer none)) (.pointer none) (.pointer none); Go.binOp .eql t (.pointer none) (.pointer none)) = some (.bool true)) (q : K (.bool true) h) :
    iStep P w (.gen (.binOp .eql t (.tmp s) (.const (.pointer none)) u)) l h K := by
  refine ⟨_, _, ?_, q⟩
  have e1 : aEnv (trOf l) (.tmp s) = some (.pointer none) := by simp only [aEnv, trOf_get, hl]
  have e2 : aEnv (trOf l) (.const (.pointer none)) = some (.pointer none) := rfl
  exact op_bin e1 e2 rfl rfl rfl e
theorem gen_pnln (hl : lk l s = some (.pointer none)) (e : pureRun P (do Go.eqGuard .neq t (.tmp s) (.const (.pointer none)) (.pointer none) (.pointer none); Go.binOp .neq t (.pointer none) (.pointer none)) = some (.bool false)) (q : K (.bool false) h) :
    iStep P w (.gen (.binOp .neq t (.tmp s) (.const (.pointer none)) u)) l h K := by
  refine ⟨_, _, ?_, q⟩
  have e1 : aEnv (trOf l) (.tmp s) = some (.pointer none) := by simp only [aEnv, trOf_get, hl]
  have e2 : aEnv (trOf l) (.const (.pointer none)) = some (.pointer none) := rfl
  exact op_bin e1 e2 rfl rfl rfl e
end
end Go.Vm
namespace Go.Proofs.Ythoigkgjidcklaa
open Go.RowKit Go.Vm
set_option maxRecDepth 100000
abbrev slO (k n c : Nat) : Value := .slice (some ⟨k, 0, none⟩) n c
abbrev cO (cs : List Value) (sz : Nat) (op : Bool) : AObj := .cells ⟨cs, sz, op⟩
section
variable {wl s nr cr nq cq nt ct nl cl kr kq kt kl z : Nat} {op : Bool} {now : Int} {L : List (Option AObj)}
abbrev shV (kr nr cr kq nq cq kt nt ct kl nl cl : Nat) (now : Int) : List Value := [slO kr nr cr, slO kq nq cq, slO kt nt ct, slO kl nl cl, .int .i64 now]
/- (*boule/shop.Shop).lot$1 · slots 7 · names 0:s 1:s · results [2] -/
def ir94_r0 : IC := .reg [⟨some 2, none, false, .mv (.k (.slice none 0 0))⟩] (some [0])
def ir94_r1 : IC := .reg [⟨some 3, none, false, .mv (.t 0)⟩,
  ⟨some 4, none, false, .nilck (.t 3)⟩,
  ⟨some 5, none, false, .fad 3 (.t 4)⟩,
  ⟨some 6, none, false, .ldc (.t 5)⟩,
  ⟨some 2, none, false, .mv (.t 6)⟩] (some [2])
def ir94_1 : IC := .seq ir94_r1 .ret
def ir94_2 : IC := .seq ir94_r0 ir94_1
def ir94 : IC := ir94_2
theorem fn94 : FnIs Try.prog 94 ir94 7 [.tmp 2] := ⟨Try.f94, Try.f94.body.getD .skip, Try.func94, by kernel_rfl, by kernel_rfl, by kernel_rfl, by kernel_rfl⟩
/- (*boule/shop.Shop).tool$1 · slots 7 · names 0:s 1:s · results [2] -/
def ir96_r0 : IC := .reg [⟨some 2, none, false, .mv (.k (.slice none 0 0))⟩] (some [0])
def ir96_r1 : IC := .reg [⟨some 3, none, false, .mv (.t 0)⟩,
  ⟨some 4, none, false, .nilck (.t 3)⟩,
  ⟨some 5, none, false, .fad 2 (.t 4)⟩,
  ⟨some 6, none, false, .ldc (.t 5)⟩,
  ⟨some 2, none, false, .mv (.t 6)⟩] (some [2])
def ir96_1 : IC := .seq ir96_r1 .ret
def ir96_2 : IC := .seq ir96_r0 ir96_1
def ir96 : IC := ir96_2
theorem fn96 : FnIs Try.prog 96 ir96 7 [.tmp 2] := ⟨Try.f96, Try.f96.body.getD .skip, Try.func96, by kernel_rfl, by kernel_rfl, by kernel_rfl, by kernel_rfl⟩
/- boule/shop.find[boule/shop.lot] · slots 30 · names 0:s 1:of 2:number 3:first 4:s 5:of 6:number 7:first 10:l · results [8, 9] -/
def ir93_r0 : IC := .reg [⟨some 8, none, false, .mv (.k (.pointer none))⟩,
  ⟨some 9, none, false, .mv (.k (.int .i64 0))⟩] (some [0, 1, 2, 3])
def ir93_r1 : IC := .reg [⟨some 11, none, false, .mv (.t 0)⟩,
  ⟨some 12, none, false, .gen (.binOp .eql 33 (.tmp 11) (.const (.pointer none)) 33)⟩] (some [0, 1, 2, 3, 12])
def ir93_r2 : IC := .reg [⟨some 8, none, false, .mv (.k (.pointer none))⟩,
  ⟨some 9, none, false, .mv (.k (.int .i64 1))⟩] (some [8, 9])
def ir93_1 : IC := .seq ir93_r2 .ret
def ir93_2 : IC := .cond (.t 12) ir93_1 .skip
def ir93_3 : IC := .seq ir93_r1 ir93_2
def ir93_r3 : IC := .reg [⟨some 13, none, false, .mv (.t 1)⟩,
  ⟨some 14, none, false, .mv (.t 0)⟩,
  ⟨some 15, none, false, .call (.t 13) [(.t 14)]⟩,
  ⟨some 10, none, false, .mv (.t 15)⟩] (some [2, 3, 10])
def ir93_r4 : IC := .reg [⟨some 16, none, false, .mv (.t 2)⟩,
  ⟨some 17, none, false, .mv (.t 3)⟩,
  ⟨some 18, none, false, .ar .sub (.t 16) (.t 17)⟩,
  ⟨some 19, none, false, .mv (.t 10)⟩,
  ⟨some 20, none, false, .len (.t 19)⟩,
  ⟨some 21, none, false, .ar .sub (.t 20) (.k (.int .i64 1))⟩,
  ⟨some 22, none, false, .call (.f 29) [(.t 18), (.k (.int .i64 0)), (.t 21)]⟩,
  ⟨some 23, none, false, .not (.t 22)⟩] (some [2, 3, 10, 23])
def ir93_r5 : IC := .reg [⟨some 8, none, false, .mv (.k (.pointer none))⟩,
  ⟨some 9, none, false, .mv (.k (.int .i64 7))⟩] (some [8, 9])
def ir93_4 : IC := .seq ir93_r5 .ret
def ir93_5 : IC := .cond (.t 23) ir93_4 .skip
def ir93_6 : IC := .seq ir93_r4 ir93_5
def ir93_r6 : IC := .reg [⟨some 24, none, false, .mv (.t 10)⟩,
  ⟨some 25, none, false, .mv (.t 2)⟩,
  ⟨some 26, none, false, .mv (.t 3)⟩,
  ⟨some 27, none, false, .ar .sub (.t 25) (.t 26)⟩,
  ⟨some 28, none, false, .iad 1 (.t 24) (.t 27)⟩,
  ⟨some 29, none, false, .ldc (.t 28)⟩,
  ⟨some 8, none, false, .mv (.t 29)⟩,
  ⟨some 9, none, false, .mv (.k (.int .i64 0))⟩] (some [8, 9])
def ir93_7 : IC := .seq ir93_r6 .ret
def ir93_8 : IC := .seq ir93_6 ir93_7
def ir93_9 : IC := .seq ir93_r3 ir93_8
def ir93_10 : IC := .seq ir93_3 ir93_9
def ir93_11 : IC := .seq ir93_r0 ir93_10
def ir93 : IC := ir93_11
theorem fn93 : FnIs Try.prog 93 ir93 30 [.tmp 8, .tmp 9] := ⟨Try.f93, Try.f93.body.getD .skip, Try.func93, by kernel_rfl, by kernel_rfl, by kernel_rfl, by kernel_rfl⟩
/- boule/shop.find[boule/shop.tool] · slots 30 · names 0:s 1:of 2:number 3:first 4:s 5:of 6:number 7:first 10:l · results [8, 9] -/
def ir95_r0 : IC := .reg [⟨some 8, none, false, .mv (.k (.pointer none))⟩,
  ⟨some 9, none, false, .mv (.k (.int .i64 0))⟩] (some [0, 1, 2, 3])
def ir95_r1 : IC := .reg [⟨some 11, none, false, .mv (.t 0)⟩,
  ⟨some 12, none, false, .gen (.binOp .eql 33 (.tmp 11) (.const (.pointer none)) 33)⟩] (some [0, 1, 2, 3, 12])
def ir95_r2 : IC := .reg [⟨some 8, none, false, .mv (.k (.pointer none))⟩,
  ⟨some 9, none, false, .mv (.k (.int .i64 1))⟩] (some [8, 9])
def ir95_1 : IC := .seq ir95_r2 .ret
def ir95_2 : IC := .cond (.t 12) ir95_1 .skip
def ir95_3 : IC := .seq ir95_r1 ir95_2
def ir95_r3 : IC := .reg [⟨some 13, none, false, .mv (.t 1)⟩,
  ⟨some 14, none, false, .mv (.t 0)⟩,
  ⟨some 15, none, false, .call (.t 13) [(.t 14)]⟩,
  ⟨some 10, none, false, .mv (.t 15)⟩] (some [2, 3, 10])
def ir95_r4 : IC := .reg [⟨some 16, none, false, .mv (.t 2)⟩,
  ⟨some 17, none, false, .mv (.t 3)⟩,
  ⟨some 18, none, false, .ar .sub (.t 16) (.t 17)⟩,
  ⟨some 19, none, false, .mv (.t 10)⟩,
  ⟨some 20, none, false, .len (.t 19)⟩,
  ⟨some 21, none, false, .ar .sub (.t 20) (.k (.int .i64 1))⟩,
  ⟨some 22, none, false, .call (.f 29) [(.t 18), (.k (.int .i64 0)), (.t 21)]⟩,
  ⟨some 23, none, false, .not (.t 22)⟩] (some [2, 3, 10, 23])
def ir95_r5 : IC := .reg [⟨some 8, none, false, .mv (.k (.pointer none))⟩,
  ⟨some 9, none, false, .mv (.k (.int .i64 7))⟩] (some [8, 9])
def ir95_4 : IC := .seq ir95_r5 .ret
def ir95_5 : IC := .cond (.t 23) ir95_4 .skip
def ir95_6 : IC := .seq ir95_r4 ir95_5
def ir95_r6 : IC := .reg [⟨some 24, none, false, .mv (.t 10)⟩,
  ⟨some 25, none, false, .mv (.t 2)⟩,
  ⟨some 26, none, false, .mv (.t 3)⟩,
  ⟨some 27, none, false, .ar .sub (.t 25) (.t 26)⟩,
  ⟨some 28, none, false, .iad 1 (.t 24) (.t 27)⟩,
  ⟨some 29, none, false, .ldc (.t 28)⟩,
  ⟨some 8, none, false, .mv (.t 29)⟩,
  ⟨some 9, none, false, .mv (.k (.int .i64 0))⟩] (some [8, 9])
def ir95_7 : IC := .seq ir95_r6 .ret
def ir95_8 : IC := .seq ir95_6 ir95_7
def ir95_9 : IC := .seq ir95_r3 ir95_8
def ir95_10 : IC := .seq ir95_3 ir95_9
def ir95_11 : IC := .seq ir95_r0 ir95_10
def ir95 : IC := ir95_11
theorem fn95 : FnIs Try.prog 95 ir95 30 [.tmp 8, .tmp 9] := ⟨Try.f95, Try.f95.body.getD .skip, Try.func95, by kernel_rfl, by kernel_rfl, by kernel_rfl, by kernel_rfl⟩
/- (*boule/shop.Shop).lot · slots 13 · names 0:s 1:number 2:s 3:number · results [4, 5] -/
def ir50_r0 : IC := .reg [⟨some 4, none, false, .mv (.k (.pointer none))⟩,
  ⟨some 5, none, false, .mv (.k (.int .i64 0))⟩] (some [0, 1])
def ir50_r1 : IC := .reg [⟨some 6, none, false, .mv (.t 1)⟩,
  ⟨some 7, none, false, .cmp .lss (.t 6) (.k (.int .i64 1))⟩] (some [0, 1, 7])
def ir50_r2 : IC := .reg [⟨some 1, none, false, .mv (.k (.int .i64 0))⟩] (some [0, 1])
def ir50_1 : IC := .cond (.t 7) ir50_r2 .skip
def ir50_2 : IC := .seq ir50_r1 ir50_1
def ir50_r3 : IC := .reg [⟨some 8, none, false, .mv (.t 0)⟩,
  ⟨some 9, none, false, .mv (.t 1)⟩,
  ⟨some 10, none, false, .call (.f 93) [(.t 8), (.f 94), (.t 9), (.k (.int .i64 1))]⟩,
  ⟨some 11, none, false, .ext (.t 10) 0⟩,
  ⟨some 12, none, false, .ext (.t 10) 1⟩,
  ⟨some 4, none, false, .mv (.t 11)⟩,
  ⟨some 5, none, false, .mv (.t 12)⟩] (some [4, 5])
def ir50_3 : IC := .seq ir50_r3 .ret
def ir50_4 : IC := .seq ir50_2 ir50_3
def ir50_5 : IC := .seq ir50_r0 ir50_4
def ir50 : IC := ir50_5
theorem fn50 : FnIs Try.prog 50 ir50 13 [.tmp 4, .tmp 5] := ⟨Try.f50, Try.f50.body.getD .skip, Try.func50, by kernel_rfl, by kernel_rfl, by kernel_rfl, by kernel_rfl⟩
/- (*boule/shop.Shop).tool · slots 11 · names 0:s 1:number 2:s 3:number · results [4, 5] -/
def ir51_r0 : IC := .reg [⟨some 4, none, false, .mv (.k (.pointer none))⟩,
  ⟨some 5, none, false, .mv (.k (.int .i64 0))⟩] (some [0, 1])
def ir51_r1 : IC := .reg [⟨some 6, none, false, .mv (.t 0)⟩,
  ⟨some 7, none, false, .mv (.t 1)⟩,
  ⟨some 8, none, false, .call (.f 95) [(.t 6), (.f 96), (.t 7), (.k (.int .i64 0))]⟩,
  ⟨some 9, none, false, .ext (.t 8) 0⟩,
  ⟨some 10, none, false, .ext (.t 8) 1⟩,
  ⟨some 4, none, false, .mv (.t 9)⟩,
  ⟨some 5, none, false, .mv (.t 10)⟩] (some [4, 5])
def ir51_1 : IC := .seq ir51_r1 .ret
def ir51_2 : IC := .seq ir51_r0 ir51_1
def ir51 : IC := ir51_2
theorem fn51 : FnIs Try.prog 51 ir51 11 [.tmp 4, .tmp 5] := ⟨Try.f51, Try.f51.body.getD .skip, Try.func51, by kernel_rfl, by kernel_rfl, by kernel_rfl, by kernel_rfl⟩
/- (*boule/shop.Shop).done · slots 15 · names 0:s 1:l 2:s 3:l · results [4] -/
def ir67_r0 : IC := .reg [⟨some 4, none, false, .mv (.k (.bool false))⟩] (some [0, 1])
def ir67_r1 : IC := .draw [(⟨some 5, none, false, .mv (.t 1)⟩, false, 0, 0),
  (⟨some 6, none, false, .nilck (.t 5)⟩, false, 1, 0),
  (⟨some 7, none, false, .fad 0 (.t 6)⟩, false, 3, 0),
  (⟨some 8, none, false, .ldc (.t 7)⟩, false, 7, 1),
  (⟨some 9, none, false, .mv (.t 0)⟩, false, 0, 0),
  (⟨some 10, none, false, .nilck (.t 9)⟩, false, 16, 0),
  (⟨some 11, none, false, .fad 1 (.t 10)⟩, false, 48, 0),
  (⟨some 12, none, false, .ldc (.t 11)⟩, false, 112, 8),
  (⟨some 13, none, false, .len (.t 12)⟩, false, 240, 8),
  (⟨some 14, none, false, .cmp .eql (.t 8) (.t 13)⟩, false, 511, 0),
  (⟨some 4, none, false, .mv (.t 14)⟩, false, 1023, 0)] (some [4])
def ir67_1 : IC := .seq ir67_r1 .ret
def ir67_2 : IC := .seq ir67_r0 ir67_1
def ir67 : IC := ir67_2
theorem fn67 : FnIs Try.prog 67 ir67 15 [.tmp 4] := ⟨Try.f67, Try.f67.body.getD .skip, Try.func67, by kernel_rfl, by kernel_rfl, by kernel_rfl, by kernel_rfl⟩
/- (*boule/shop.Shop).ready · slots 38 · names 0:s 1:l 2:recipe 3:s 4:l 5:recipe · results [6] -/
def ir64_r0 : IC := .reg [⟨some 6, none, false, .mv (.k (.int .i64 0))⟩] (some [0, 1, 2])
def ir64_r1 : IC := .reg [⟨some 8, none, false, .mv (.t 1)⟩,
  ⟨some 9, none, false, .nilck (.t 8)⟩,
  ⟨some 10, none, false, .fad 1 (.t 9)⟩,
  ⟨some 11, none, false, .ldc (.t 10)⟩,
  ⟨some 12, none, false, .gen (.binOp .neq 122 (.tmp 11) (.const (.pointer none)) 122)⟩,
  ⟨some 13, none, false, .mv (.t 12)⟩,
  ⟨some 14, some (13, false), false, .mv (.t 0)⟩,
  ⟨some 15, some (13, false), false, .mv (.t 1)⟩,
  ⟨some 16, some (13, false), false, .call (.f 67) [(.t 14), (.t 15)]⟩,
  ⟨some 17, none, false, .pick (.t 13) (.k (.bool true)) (.t 16)⟩,
  ⟨some 7, none, false, .mv (.t 17)⟩] (some [0, 1, 2, 7])
def ir64_r2 : IC := .reg [⟨some 6, none, false, .mv (.k (.int .i64 9))⟩] (some [6])
def ir64_1 : IC := .seq ir64_r2 .ret
def ir64_r3 : IC := .reg [⟨some 19, none, false, .mv (.t 1)⟩,
  ⟨some 20, none, false, .nilck (.t 19)⟩,
  ⟨some 21, none, false, .fad 3 (.t 20)⟩,
  ⟨some 22, none, false, .ldc (.t 21)⟩,
  ⟨some 23, none, false, .cmp .neq (.t 22) (.k (.int .u8 0))⟩,
  ⟨some 18, none, false, .mv (.t 23)⟩] (some [0, 1, 2, 18])
def ir64_r4 : IC := .reg [⟨some 6, none, false, .mv (.k (.int .i64 110))⟩] (some [6])
def ir64_2 : IC := .seq ir64_r4 .ret
def ir64_r5 : IC := .draw [(⟨some 25, none, false, .mv (.t 0)⟩, false, 0, 0),
  (⟨some 26, none, false, .nilck (.t 25)⟩, false, 1, 0),
  (⟨some 27, none, false, .fad 1 (.t 26)⟩, false, 3, 0),
  (⟨some 28, none, false, .ldc (.t 27)⟩, false, 7, 1),
  (⟨some 29, none, false, .mv (.t 1)⟩, false, 0, 0),
  (⟨some 30, none, false, .nilck (.t 29)⟩, false, 16, 0),
  (⟨some 31, none, false, .fad 0 (.t 30)⟩, false, 48, 0),
  (⟨some 32, none, false, .ldc (.t 31)⟩, false, 112, 8),
  (⟨some 33, none, false, .iad 2 (.t 28) (.t 32)⟩, false, 255, 0),
  (⟨some 34, none, false, .fad 0 (.t 33)⟩, false, 511, 0),
  (⟨some 35, none, false, .ldc (.t 34)⟩, true, 1023, 0),
  (⟨some 36, none, false, .mv (.t 2)⟩, false, 0, 0),
  (⟨some 37, none, false, .cmp .neq (.t 35) (.t 36)⟩, false, 4095, 0),
  (⟨some 24, none, false, .mv (.t 37)⟩, false, 8191, 0)] (some [24])
def ir64_r6 : IC := .reg [⟨some 6, none, false, .mv (.k (.int .i64 112))⟩] (some [6])
def ir64_3 : IC := .seq ir64_r6 .ret
def ir64_4 : IC := .cond (.t 24) ir64_3 .skip
def ir64_5 : IC := .seq ir64_r5 ir64_4
def ir64_6 : IC := .cond (.t 18) ir64_2 ir64_5
def ir64_7 : IC := .seq ir64_r3 ir64_6
def ir64_8 : IC := .cond (.t 7) ir64_1 ir64_7
def ir64_9 : IC := .seq ir64_r1 ir64_8
def ir64_10 : IC := .block 0 ir64_9
def ir64_r7 : IC := .reg [⟨some 6, none, false, .mv (.k (.int .i64 0))⟩] (some [6])
def ir64_11 : IC := .seq ir64_r7 .ret
def ir64_12 : IC := .seq ir64_10 ir64_11
def ir64_13 : IC := .seq ir64_r0 ir64_12
def ir64 : IC := ir64_13
theorem fn64 : FnIs Try.prog 64 ir64 38 [.tmp 6] := ⟨Try.f64, Try.f64.body.getD .skip, Try.func64, by kernel_rfl, by kernel_rfl, by kernel_rfl, by kernel_rfl⟩
theorem lot1_f (hS : (L[s]?).join = some (cO (shV kr nr cr kq nq cq kt nt ct kl nl cl now) z op)) : Fc Try.prog 94 [pt s] (Hp wl L) (slO kl nl cl) (Hp wl L) := by
  have hnn : ∀ a, (notNil (.pointer (some a)) = true) = True := fun a => eq_true rfl
  refine Fc.introX fn94 (by simp) (fun _ => Grow.refl _) ?_; simp only [argF]
  refine ITri.seq ?_
  refine ITri.reg pok ?_; simp -implicitDefEqProofs (disch := first | decide | exact of_eq_true (eq_true rfl) | omega | assumption) only [ ↓vcD, vcE, ↓vcG, vcF, evs, evP, evB, intsOf, fillC, Value.cells, pt, Value.oneCell', reduceIte, reduceCtorEq, Nat.reduceEqDiff, Nat.reduceAdd, Nat.reduceMul, Nat.reduceLT, Nat.reduceBEq, Nat.reduceLeDiff, Nat.reduceSub]
  refine ITri.seq ?_
  refine ITri.reg pok ?_; simp -implicitDefEqProofs (disch := first | decide | exact of_eq_true (eq_true rfl) | omega | assumption) only [hS, hnn,  ↓vcD, vcE, ↓vcG, vcF, evs, evP, evB, intsOf, fillC, Value.cells, pt, Value.oneCell', reduceIte, reduceCtorEq, Nat.reduceEqDiff, Nat.reduceAdd, Nat.reduceMul, Nat.reduceLT, Nat.reduceBEq, Nat.reduceLeDiff, Nat.reduceSub]
  refine ITri.ret ?_; exact EndX.mk (by simp) (by rfl) (by rfl) (by rfl)
theorem tool1_f (hS : (L[s]?).join = some (cO (shV kr nr cr kq nq cq kt nt ct kl nl cl now) z op)) : Fc Try.prog 96 [pt s] (Hp wl L) (slO kt nt ct) (Hp wl L) := by
  have hnn : ∀ a, (notNil (.pointer (some a)) = true) = True := fun a => eq_true rfl
  refine Fc.introX fn96 (by simp) (fun _ => Grow.refl _) ?_; simp only [argF]
  refine ITri.seq ?_
  refine ITri.reg pok ?_; simp -implicitDefEqProofs (disch := first | decide | exact of_eq_true (eq_true rfl) | omega | assumption) only [ ↓vcD, vcE, ↓vcG, vcF, evs, evP, evB, intsOf, fillC, Value.cells, pt, Value.oneCell', reduceIte, reduceCtorEq, Nat.reduceEqDiff, Nat.reduceAdd, Nat.reduceMul, Nat.reduceLT, Nat.reduceBEq, Nat.reduceLeDiff, Nat.reduceSub]
  refine ITri.seq ?_
  refine ITri.reg pok ?_; simp -implicitDefEqProofs (disch := first | decide | exact of_eq_true (eq_true rfl) | omega | assumption) only [hS, hnn,  ↓vcD, vcE, ↓vcG, vcF, evs, evP, evB, intsOf, fillC, Value.cells, pt, Value.oneCell', reduceIte, reduceCtorEq, Nat.reduceEqDiff, Nat.reduceAdd, Nat.reduceMul, Nat.reduceLT, Nat.reduceBEq, Nat.reduceLeDiff, Nat.reduceSub]
  refine ITri.ret ?_; exact EndX.mk (by simp) (by rfl) (by rfl) (by rfl)
end
section
variable {wl s k n c z q i g : Nat} {op : Bool} {m fst : Int} {L : List (Option AObj)} {cs : List Value}
theorem findL_f (h0 : 0 < L.length) (F : Fc Try.prog g [pt s] (Hp wl L) (slO k n c) (Hp wl L)) (hR : (L[k]?).join = some (cO cs z op)) (hi : m - fst = i) (hn : i < n) (hb : n ≤ 1000000) (hc : cs[i]? = some (pt q)) :
    Fc Try.prog 93 [pt s, .func (.func g) #[] #[], .int .i64 m, .int .i64 fst] (Hp wl L) (.tuple #[pt q, .int .i64 0]) (Hp wl L) := by
  have hin : inT i 0 ((n : Int) - 1) = true := by
    unfold inT
    simp only [Bool.and_eq_true, decide_eq_true_eq]
    omega
  refine Fc.introX fn93 (by simp) (fun _ => Grow.refl _) ?_; simp only [argF]
  refine ITri.seq ?_
  refine ITri.reg pok ?_; simp -implicitDefEqProofs (disch := first | decide | exact of_eq_true (eq_true rfl) | omega | assumption) only [ ↓vcD, vcE, ↓vcG, vcF, evs, evP, evB, intsOf, fillC, Value.cells, pt, Value.oneCell', reduceIte, reduceCtorEq, Nat.reduceEqDiff, Nat.reduceAdd, Nat.reduceMul, Nat.reduceLT, Nat.reduceBEq, Nat.reduceLeDiff, Nat.reduceSub]
  refine ITri.seq ?_
  refine ITri.seq ?_
  refine ITri.reg pok ?_; simp -implicitDefEqProofs (disch := first | decide | exact of_eq_true (eq_true rfl) | omega | assumption) only [ ↓vcD, vcE, ↓vcG, vcF, evs, evP, evB, intsOf, fillC, Value.cells, pt, Value.oneCell', reduceIte, reduceCtorEq, Nat.reduceEqDiff, Nat.reduceAdd, Nat.reduceMul, Nat.reduceLT, Nat.reduceBEq, Nat.reduceLeDiff, Nat.reduceSub]
  refine gen_peq (by kernel_rfl) rfl ?_
  try simp -implicitDefEqProofs (disch := first | decide | exact of_eq_true (eq_true rfl) | omega | assumption) only [ ↓vcD, vcE, ↓vcG, vcF, evs, evP, evB, intsOf, fillC, Value.cells, pt, Value.oneCell', reduceIte, reduceCtorEq, Nat.reduceEqDiff, Nat.reduceAdd, Nat.reduceMul, Nat.reduceLT, Nat.reduceBEq, Nat.reduceLeDiff, Nat.reduceSub]
  refine ITri.cond (v := false) rfl (fun h => by cases h) (fun _ => ?_); refine ITri.skip ?_; simp only [SeqQ_normal, BlkQ_normal]
  refine ITri.seq ?_
  refine ITri.reg pok ?_; simp -implicitDefEqProofs (disch := first | decide | exact of_eq_true (eq_true rfl) | omega | assumption) only [ ↓vcD, vcE, ↓vcG, vcF, evs, evP, evB, intsOf, fillC, Value.cells, pt, Value.oneCell', reduceIte, reduceCtorEq, Nat.reduceEqDiff, Nat.reduceAdd, Nat.reduceMul, Nat.reduceLT, Nat.reduceBEq, Nat.reduceLeDiff, Nat.reduceSub]
  refine ⟨_, _, F, ?_⟩
  try simp -implicitDefEqProofs (disch := first | decide | exact of_eq_true (eq_true rfl) | omega | assumption) only [ ↓vcD, vcE, ↓vcG, vcF, evs, evP, evB, intsOf, fillC, Value.cells, pt, Value.oneCell', reduceIte, reduceCtorEq, Nat.reduceEqDiff, Nat.reduceAdd, Nat.reduceMul, Nat.reduceLT, Nat.reduceBEq, Nat.reduceLeDiff, Nat.reduceSub]
  refine ITri.seq ?_
  refine ITri.seq ?_
  refine ITri.reg pok ?_; simp -implicitDefEqProofs (disch := first | decide | exact of_eq_true (eq_true rfl) | omega | assumption) only [hi,  ↓vcD, vcE, ↓vcG, vcF, evs, evP, evB, intsOf, fillC, Value.cells, pt, Value.oneCell', reduceIte, reduceCtorEq, Nat.reduceEqDiff, Nat.reduceAdd, Nat.reduceMul, Nat.reduceLT, Nat.reduceBEq, Nat.reduceLeDiff, Nat.reduceSub]
  refine ⟨_, _, in_f _ _ _ (sees0 rfl h0), ?_⟩
  simp -implicitDefEqProofs (disch := first | decide | exact of_eq_true (eq_true rfl) | omega | assumption) only [hin, Bool.not_true,  ↓vcD, vcE, ↓vcG, vcF, evs, evP, evB, intsOf, fillC, Value.cells, pt, Value.oneCell', reduceIte, reduceCtorEq, Nat.reduceEqDiff, Nat.reduceAdd, Nat.reduceMul, Nat.reduceLT, Nat.reduceBEq, Nat.reduceLeDiff, Nat.reduceSub]
  refine ITri.cond (v := false) rfl (fun h => by cases h) (fun _ => ?_); refine ITri.skip ?_; simp only [SeqQ_normal, BlkQ_normal]
  refine ITri.seq ?_
  refine ITri.reg pok ?_; simp -implicitDefEqProofs (disch := first | decide | exact of_eq_true (eq_true rfl) | omega | assumption) only [hi, hR, hc, Int.toNat_natCast,  ↓vcD, vcE, ↓vcG, vcF, evs, evP, evB, intsOf, fillC, Value.cells, pt, Value.oneCell', reduceIte, reduceCtorEq, Nat.reduceEqDiff, Nat.reduceAdd, Nat.reduceMul, Nat.reduceLT, Nat.reduceBEq, Nat.reduceLeDiff, Nat.reduceSub]
  refine ITri.ret ?_; exact EndX.mk (by simp) (by rfl) (by rfl) (by rfl)
theorem findT_f (h0 : 0 < L.length) (F : Fc Try.prog g [pt s] (Hp wl L) (slO k n c) (Hp wl L)) (hR : (L[k]?).join = some (cO cs z op)) (hi : m - fst = i) (hn : i < n) (hb : n ≤ 1000000) (hc : cs[i]? = some (pt q)) :
    Fc Try.prog 95 [pt s, .func (.func g) #[] #[], .int .i64 m, .int .i64 fst] (Hp wl L) (.tuple #[pt q, .int .i64 0]) (Hp wl L) := by
  have hin : inT i 0 ((n : Int) - 1) = true := by
    unfold inT
    simp only [Bool.and_eq_true, decide_eq_true_eq]
    omega
  refine Fc.introX fn95 (by simp) (fun _ => Grow.refl _) ?_; simp only [argF]
  refine ITri.seq ?_
  refine ITri.reg pok ?_; simp -implicitDefEqProofs (disch := first | decide | exact of_eq_true (eq_true rfl) | omega | assumption) only [ ↓vcD, vcE, ↓vcG, vcF, evs, evP, evB, intsOf, fillC, Value.cells, pt, Value.oneCell', reduceIte, reduceCtorEq, Nat.reduceEqDiff, Nat.reduceAdd, Nat.reduceMul, Nat.reduceLT, Nat.reduceBEq, Nat.reduceLeDiff, Nat.reduceSub]
  refine ITri.seq ?_
  refine ITri.seq ?_
  refine ITri.reg pok ?_; simp -implicitDefEqProofs (disch := first | decide | exact of_eq_true (eq_true rfl) | omega | assumption) only [ ↓vcD, vcE, ↓vcG, vcF, evs, evP, evB, intsOf, fillC, Value.cells, pt, Value.oneCell', reduceIte, reduceCtorEq, Nat.reduceEqDiff, Nat.reduceAdd, Nat.reduceMul, Nat.reduceLT, Nat.reduceBEq, Nat.reduceLeDiff, Nat.reduceSub]
  refine gen_peq (by kernel_rfl) rfl ?_
  try simp -implicitDefEqProofs (disch := first | decide | exact of_eq_true (eq_true rfl) | omega | assumption) only [ ↓vcD, vcE, ↓vcG, vcF, evs, evP, evB, intsOf, fillC, Value.cells, pt, Value.oneCell', reduceIte, reduceCtorEq, Nat.reduceEqDiff, Nat.reduceAdd, Nat.reduceMul, Nat.reduceLT, Nat.reduceBEq, Nat.reduceLeDiff, Nat.reduceSub]
  refine ITri.cond (v := false) rfl (fun h => by cases h) (fun _ => ?_); refine ITri.skip ?_; simp only [SeqQ_normal, BlkQ_normal]
  refine ITri.seq ?_
  refine ITri.reg pok ?_; simp -implicitDefEqProofs (disch := first | decide | exact of_eq_true (eq_true rfl) | omega | assumption) only [ ↓vcD, vcE, ↓vcG, vcF, evs, evP, evB, intsOf, fillC, Value.cells, pt, Value.oneCell', reduceIte, reduceCtorEq, Nat.reduceEqDiff, Nat.reduceAdd, Nat.reduceMul, Nat.reduceLT, Nat.reduceBEq, Nat.reduceLeDiff, Nat.reduceSub]
  refine ⟨_, _, F, ?_⟩
  try simp -implicitDefEqProofs (disch := first | decide | exact of_eq_true (eq_true rfl) | omega | assumption) only [ ↓vcD, vcE, ↓vcG, vcF, evs, evP, evB, intsOf, fillC, Value.cells, pt, Value.oneCell', reduceIte, reduceCtorEq, Nat.reduceEqDiff, Nat.reduceAdd, Nat.reduceMul, Nat.reduceLT, Nat.reduceBEq, Nat.reduceLeDiff, Nat.reduceSub]
  refine ITri.seq ?_
  refine ITri.seq ?_
  refine ITri.reg pok ?_; simp -implicitDefEqProofs (disch := first | decide | exact of_eq_true (eq_true rfl) | omega | assumption) only [hi,  ↓vcD, vcE, ↓vcG, vcF, evs, evP, evB, intsOf, fillC, Value.cells, pt, Value.oneCell', reduceIte, reduceCtorEq, Nat.reduceEqDiff, Nat.reduceAdd, Nat.reduceMul, Nat.reduceLT, Nat.reduceBEq, Nat.reduceLeDiff, Nat.reduceSub]
  refine ⟨_, _, in_f _ _ _ (sees0 rfl h0), ?_⟩
  simp -implicitDefEqProofs (disch := first | decide | exact of_eq_true (eq_true rfl) | omega | assumption) only [hin, Bool.not_true,  ↓vcD, vcE, ↓vcG, vcF, evs, evP, evB, intsOf, fillC, Value.cells, pt, Value.oneCell', reduceIte, reduceCtorEq, Nat.reduceEqDiff, Nat.reduceAdd, Nat.reduceMul, Nat.reduceLT, Nat.reduceBEq, Nat.reduceLeDiff, Nat.reduceSub]
  refine ITri.cond (v := false) rfl (fun h => by cases h) (fun _ => ?_); refine ITri.skip ?_; simp only [SeqQ_normal, BlkQ_normal]
  refine ITri.seq ?_
  refine ITri.reg pok ?_; simp -implicitDefEqProofs (disch := first | decide | exact of_eq_true (eq_true rfl) | omega | assumption) only [hi, hR, hc, Int.toNat_natCast,  ↓vcD, vcE, ↓vcG, vcF, evs, evP, evB, intsOf, fillC, Value.cells, pt, Value.oneCell', reduceIte, reduceCtorEq, Nat.reduceEqDiff, Nat.reduceAdd, Nat.reduceMul, Nat.reduceLT, Nat.reduceBEq, Nat.reduceLeDiff, Nat.reduceSub]
  refine ITri.ret ?_; exact EndX.mk (by simp) (by rfl) (by rfl) (by rfl)
end
section
variable {wl s k n c z q i z2 nr cr kr nq cq kq nt ct kt nl cl kl : Nat} {op op2 : Bool} {now m : Int} {L : List (Option AObj)} {cs : List Value}
theorem lot_f (h0 : 0 < L.length) (hS : (L[s]?).join = some (cO (shV kr nr cr kq nq cq kt nt ct kl nl cl now) z op)) (hR : (L[kl]?).join = some (cO cs z2 op2)) (hi : m - 1 = i) (hn : i < nl) (hb : nl ≤ 1000000) (hc : cs[i]? = some (pt q)) :
    Fc Try.prog 50 [pt s, .int .i64 m] (Hp wl L) (.tuple #[pt q, .int .i64 0]) (Hp wl L) := by
  have h1 : ¬ m < 1 := by omega
  refine Fc.introX fn50 (by simp) (fun _ => Grow.refl _) ?_; simp only [argF]
  refine ITri.seq ?_
  refine ITri.reg pok ?_; simp -implicitDefEqProofs (disch := first | decide | exact of_eq_true (eq_true rfl) | omega | assumption) only [ ↓vcD, vcE, ↓vcG, vcF, evs, evP, evB, intsOf, fillC, Value.cells, pt, Value.oneCell', reduceIte, reduceCtorEq, Nat.reduceEqDiff, Nat.reduceAdd, Nat.reduceMul, Nat.reduceLT, Nat.reduceBEq, Nat.reduceLeDiff, Nat.reduceSub]
  refine ITri.seq ?_
  refine ITri.seq ?_
  refine ITri.reg pok ?_; simp -implicitDefEqProofs (disch := first | decide | exact of_eq_true (eq_true rfl) | omega | assumption) only [h1, decide_false,  ↓vcD, vcE, ↓vcG, vcF, evs, evP, evB, intsOf, fillC, Value.cells, pt, Value.oneCell', reduceIte, reduceCtorEq, Nat.reduceEqDiff, Nat.reduceAdd, Nat.reduceMul, Nat.reduceLT, Nat.reduceBEq, Nat.reduceLeDiff, Nat.reduceSub]
  refine ITri.cond (v := false) rfl (fun h => by cases h) (fun _ => ?_); refine ITri.skip ?_; simp only [SeqQ_normal, BlkQ_normal]
  refine ITri.seq ?_
  refine ITri.reg pok ?_; simp -implicitDefEqProofs (disch := first | decide | exact of_eq_true (eq_true rfl) | omega | assumption) only [ ↓vcD, vcE, ↓vcG, vcF, evs, evP, evB, intsOf, fillC, Value.cells, pt, Value.oneCell', reduceIte, reduceCtorEq, Nat.reduceEqDiff, Nat.reduceAdd, Nat.reduceMul, Nat.reduceLT, Nat.reduceBEq, Nat.reduceLeDiff, Nat.reduceSub]
  refine ⟨_, _, findL_f (i := i) h0 (lot1_f hS) hR hi hn hb hc, ?_⟩
  try simp -implicitDefEqProofs (disch := first | decide | exact of_eq_true (eq_true rfl) | omega | assumption) only [ ↓vcD, vcE, ↓vcG, vcF, evs, evP, evB, intsOf, fillC, Value.cells, pt, Value.oneCell', reduceIte, reduceCtorEq, Nat.reduceEqDiff, Nat.reduceAdd, Nat.reduceMul, Nat.reduceLT, Nat.reduceBEq, Nat.reduceLeDiff, Nat.reduceSub]
  refine ITri.ret ?_; exact EndX.mk (by simp) (by rfl) (by rfl) (by rfl)
theorem tool_f (h0 : 0 < L.length) (hS : (L[s]?).join = some (cO (shV kr nr cr kq nq cq kt nt ct kl nl cl now) z op)) (hR : (L[kt]?).join = some (cO cs z2 op2)) (hi : m = i) (hn : i < nt) (hb : nt ≤ 1000000) (hc : cs[i]? = some (pt q)) :
    Fc Try.prog 51 [pt s, .int .i64 m] (Hp wl L) (.tuple #[pt q, .int .i64 0]) (Hp wl L) := by
  refine Fc.introX fn51 (by simp) (fun _ => Grow.refl _) ?_; simp only [argF]
  refine ITri.seq ?_
  refine ITri.reg pok ?_; simp -implicitDefEqProofs (disch := first | decide | exact of_eq_true (eq_true rfl) | omega | assumption) only [ ↓vcD, vcE, ↓vcG, vcF, evs, evP, evB, intsOf, fillC, Value.cells, pt, Value.oneCell', reduceIte, reduceCtorEq, Nat.reduceEqDiff, Nat.reduceAdd, Nat.reduceMul, Nat.reduceLT, Nat.reduceBEq, Nat.reduceLeDiff, Nat.reduceSub]
  refine ITri.seq ?_
  refine ITri.reg pok ?_; simp -implicitDefEqProofs (disch := first | decide | exact of_eq_true (eq_true rfl) | omega | assumption) only [ ↓vcD, vcE, ↓vcG, vcF, evs, evP, evB, intsOf, fillC, Value.cells, pt, Value.oneCell', reduceIte, reduceCtorEq, Nat.reduceEqDiff, Nat.reduceAdd, Nat.reduceMul, Nat.reduceLT, Nat.reduceBEq, Nat.reduceLeDiff, Nat.reduceSub]
  refine ⟨_, _, findT_f (i := i) h0 (tool1_f hS) hR (by omega) hn hb hc, ?_⟩
  try simp -implicitDefEqProofs (disch := first | decide | exact of_eq_true (eq_true rfl) | omega | assumption) only [ ↓vcD, vcE, ↓vcG, vcF, evs, evP, evB, intsOf, fillC, Value.cells, pt, Value.oneCell', reduceIte, reduceCtorEq, Nat.reduceEqDiff, Nat.reduceAdd, Nat.reduceMul, Nat.reduceLT, Nat.reduceBEq, Nat.reduceLeDiff, Nat.reduceSub]
  refine ITri.ret ?_; exact EndX.mk (by simp) (by rfl) (by rfl) (by rfl)
/-- A lot. -/
abbrev loV (step : Int) (tool : Value) (since held signed : Int) : List Value := [.int .i64 step, tool, .int .i64 since, .int .u8 held, .int .i64 signed]
theorem done_f {a since held signed : Int} {tool : Value} (hS : (L[s]?).join = some (cO (shV kr nr cr kq nq cq kt nt ct kl nl cl now) z op)) (hL : (L[k]?).join = some (cO (loV a tool since held signed) z2 op2)) :
    Fc Try.prog 67 [pt s, pt k] (Hp wl L) (.bool (decide (a = nq))) (Hp wl L) := by
  have hnn : ∀ a, (notNil (.pointer (some a)) = true) = True := fun a => eq_true rfl
  refine Fc.introX fn67 (by simp) (fun _ => Grow.refl _) ?_; simp only [argF]
  refine ITri.seq ?_
  refine ITri.reg pok ?_; simp -implicitDefEqProofs (disch := first | decide | exact of_eq_true (eq_true rfl) | omega | assumption) only [ ↓vcD, vcE, ↓vcG, vcF, evs, evP, evB, intsOf, fillC, Value.cells, pt, Value.oneCell', reduceIte, reduceCtorEq, Nat.reduceEqDiff, Nat.reduceAdd, Nat.reduceMul, Nat.reduceLT, Nat.reduceBEq, Nat.reduceLeDiff, Nat.reduceSub]
  refine ITri.seq ?_
  refine ITri.draw pok ?_; simp -implicitDefEqProofs (disch := first | decide | exact of_eq_true (eq_true rfl) | omega | assumption) only [hS, hL, hnn,  ↓vcD, vcE, ↓vcG, vcF, evs, evP, evB, intsOf, fillC, Value.cells, pt, Value.oneCell', reduceIte, reduceCtorEq, Nat.reduceEqDiff, Nat.reduceAdd, Nat.reduceMul, Nat.reduceLT, Nat.reduceBEq, Nat.reduceLeDiff, Nat.reduceSub]
  refine ITri.ret ?_; exact EndX.mk (by simp) (by rfl) (by rfl) (by rfl)
theorem ready_f {a : Nat} {since signed rec wait : Int} {rs : List Value} {z3 : Nat} {op3 : Bool} (hS : (L[s]?).join = some (cO (shV kr nr cr kq nq cq kt nt ct kl nl cl now) z op)) (hL : (L[k]?).join = some (cO (loV a (.pointer none) since 0 signed) z2 op2))
    (hQ : (L[kq]?).join = some (cO rs z3 op3)) (ha : a < nq) (hb : nq ≤ 1000000) (hr : takeC rs (a * 2) 2 = some [.int .i64 rec, .int .i64 wait]) (hr1 : rs[a * 2]? = some (.int .i64 rec)) :
    Fc Try.prog 64 [pt s, pt k, .int .i64 rec] (Hp wl L) (.int .i64 0) (Hp wl L) := by
  have hnn : ∀ a, (notNil (.pointer (some a)) = true) = True := fun a => eq_true rfl
  have hd : (decide ((a : Int) = nq)) = false := by simp; omega
  refine Fc.introX fn64 (by simp) (fun _ => Grow.refl _) ?_; simp only [argF]
  refine ITri.seq ?_
  refine ITri.reg pok ?_; simp -implicitDefEqProofs (disch := first | decide | exact of_eq_true (eq_true rfl) | omega | assumption) only [ ↓vcD, vcE, ↓vcG, vcF, evs, evP, evB, intsOf, fillC, Value.cells, pt, Value.oneCell', reduceIte, reduceCtorEq, Nat.reduceEqDiff, Nat.reduceAdd, Nat.reduceMul, Nat.reduceLT, Nat.reduceBEq, Nat.reduceLeDiff, Nat.reduceSub]
  refine ITri.seq ?_
  refine ITri.block ?_ -- 0
  refine ITri.seq ?_
  refine ITri.reg pok ?_; simp -implicitDefEqProofs (disch := first | decide | exact of_eq_true (eq_true rfl) | omega | assumption) only [hL, hnn,  ↓vcD, vcE, ↓vcG, vcF, evs, evP, evB, intsOf, fillC, Value.cells, pt, Value.oneCell', reduceIte, reduceCtorEq, Nat.reduceEqDiff, Nat.reduceAdd, Nat.reduceMul, Nat.reduceLT, Nat.reduceBEq, Nat.reduceLeDiff, Nat.reduceSub]
  refine gen_pnln rfl (by kernel_rfl) ?_
  simp -implicitDefEqProofs (disch := first | decide | exact of_eq_true (eq_true rfl) | omega | assumption) only [hL, hnn,  ↓vcD, vcE, ↓vcG, vcF, evs, evP, evB, intsOf, fillC, Value.cells, pt, Value.oneCell', reduceIte, reduceCtorEq, Nat.reduceEqDiff, Nat.reduceAdd, Nat.reduceMul, Nat.reduceLT, Nat.reduceBEq, Nat.reduceLeDiff, Nat.reduceSub]
  refine ⟨_, _, done_f hS hL, ?_⟩
  simp -implicitDefEqProofs (disch := first | decide | exact of_eq_true (eq_true rfl) | omega | assumption) only [hd,  ↓vcD, vcE, ↓vcG, vcF, evs, evP, evB, intsOf, fillC, Value.cells, pt, Value.oneCell', reduceIte, reduceCtorEq, Nat.reduceEqDiff, Nat.reduceAdd, Nat.reduceMul, Nat.reduceLT, Nat.reduceBEq, Nat.reduceLeDiff, Nat.reduceSub]
  refine ITri.cond (v := false) rfl (fun h => by cases h) (fun _ => ?_)
  refine ITri.seq ?_
  refine ITri.reg pok ?_; simp -implicitDefEqProofs (disch := first | decide | exact of_eq_true (eq_true rfl) | omega | assumption) only [hL, hnn,  ↓vcD, vcE, ↓vcG, vcF, evs, evP, evB, intsOf, fillC, Value.cells, pt, Value.oneCell', reduceIte, reduceCtorEq, Nat.reduceEqDiff, Nat.reduceAdd, Nat.reduceMul, Nat.reduceLT, Nat.reduceBEq, Nat.reduceLeDiff, Nat.reduceSub]
  refine ITri.cond (v := false) rfl (fun h => by cases h) (fun _ => ?_)
  refine ITri.seq ?_
  refine ITri.draw pok ?_; simp -implicitDefEqProofs (disch := first | decide | exact of_eq_true (eq_true rfl) | omega | assumption) only [hS, hL, hQ, hnn, hr, hr1, Int.toNat_natCast,  ↓vcD, vcE, ↓vcG, vcF, evs, evP, evB, intsOf, fillC, Value.cells, pt, Value.oneCell', reduceIte, reduceCtorEq, Nat.reduceEqDiff, Nat.reduceAdd, Nat.reduceMul, Nat.reduceLT, Nat.reduceBEq, Nat.reduceLeDiff, Nat.reduceSub]
  refine ITri.cond (v := false) rfl (fun h => by cases h) (fun _ => ?_); refine ITri.skip ?_; simp only [SeqQ_normal, BlkQ_normal]
  refine ITri.seq ?_
  refine ITri.reg pok ?_; simp -implicitDefEqProofs (disch := first | decide | exact of_eq_true (eq_true rfl) | omega | assumption) only [ ↓vcD, vcE, ↓vcG, vcF, evs, evP, evB, intsOf, fillC, Value.cells, pt, Value.oneCell', reduceIte, reduceCtorEq, Nat.reduceEqDiff, Nat.reduceAdd, Nat.reduceMul, Nat.reduceLT, Nat.reduceBEq, Nat.reduceLeDiff, Nat.reduceSub]
  refine ITri.ret ?_; exact EndX.mk (by simp) (by rfl) (by rfl) (by rfl)
end
end Go.Proofs.Ythoigkgjidcklaa
