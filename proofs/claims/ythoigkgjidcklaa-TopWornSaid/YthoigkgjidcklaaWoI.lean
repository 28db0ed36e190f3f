/-
  Chapter 11, by names: newWatch, New, Enter.
-/
import Derived.Test.YthoigkgjidcklaaWoH
set_option linter.unusedSimpArgs false
set_option linter.unusedVariables false
namespace Go.Vm
open Go Go.RowKit
def mpTy (P : Program) (t : TypeId) : Bool := match P.underlying t with
  | some (.map _ _) => true
  | _ => false
theorem gen_mkmap {P : Program} {w : Bool} {t : TypeId} {l : Fr} {h : AH} {K : Value → AH → Prop} (hu : mpTy P t = true) (q : K (.map (some h.next)) (h.new (.map [] 0))) :
    iStep P w (.gen (.makeMap t none)) l h K := by
  unfold mpTy at hu
  split at hu
  · rename_i kt el hu'
    refine ⟨_, _, ?_, q⟩
    have e3 : aOptV (aEnv (trOf l)) none = some none := rfl
    simp only [aOp, e3, aMakeMap, hu']
  · cases hu
end Go.Vm
namespace Go.Proofs.Ythoigkgjidcklaa
open Go.RowKit Go.Vm
set_option maxRecDepth 100000
/- boule/shop.newWatch · slots 11 · names 0:c 1:c · results [2] -/
def ir43_r0 : IC := .reg [⟨some 1, none, false, .box (.t 0)⟩,
  ⟨some 2, none, false, .mv (.k (.pointer none))⟩] (some [1])
def ir43_r1 : IC := .reg [⟨some 3, none, false, .fad 1 (.t 1)⟩,
  ⟨some 4, none, false, .ldc (.t 3)⟩,
  ⟨some 5, none, false, .call (.f 89) [(.t 4)]⟩,
  ⟨some 6, none, false, .fad 1 (.t 1)⟩,
  ⟨none, none, false, .st 1 (.t 6) (.t 5)⟩] (some [1])
def ir43_r2 : IC := .reg [⟨some 7, none, false, .lda 2 (.t 1)⟩,
  ⟨some 8, none, false, .gen (.makeMap 178 none)⟩,
  ⟨some 9, none, false, .bld [(.int .i64 0), (.slice none 0 0), (.int .i64 0), (.map none)] [(0, 2, (.t 7)), (3, 1, (.t 8))]⟩,
  ⟨some 10, none, false, .box (.t 9)⟩,
  ⟨some 2, none, false, .mv (.t 10)⟩] (some [2])
def ir43_1 : IC := .seq ir43_r2 .ret
def ir43_2 : IC := .seq ir43_r1 ir43_1
def ir43_3 : IC := .seq ir43_r0 ir43_2
def ir43 : IC := ir43_3
theorem fn43 : FnIs Try.prog 43 ir43 11 [.tmp 2] := ⟨Try.f43, Try.f43.body.getD .skip, Try.func43, by kernel_rfl, by kernel_rfl, by kernel_rfl, by kernel_rfl⟩
/- boule/shop.New · slots 45 · names 0:p 1:p 4:s 5:i 6:t · results [2, 3] -/
def ir12_r0 : IC := .reg [⟨some 1, none, false, .box (.t 0)⟩,
  ⟨some 2, none, false, .mv (.k (.pointer none))⟩,
  ⟨some 3, none, false, .mv (.k (.int .i64 0))⟩] (some [1])
def ir12_r1 : IC := .reg [⟨some 7, none, false, .lda 3 (.t 1)⟩,
  ⟨some 8, none, false, .call (.f 9) [(.t 7)]⟩,
  ⟨some 9, none, false, .cmp .neq (.t 8) (.k (.int .i64 0))⟩] (some [1, 9])
def ir12_r2 : IC := .reg [⟨some 2, none, false, .mv (.k (.pointer none))⟩,
  ⟨some 3, none, false, .mv (.k (.int .i64 2))⟩] (some [2, 3])
def ir12_1 : IC := .seq ir12_r2 .ret
def ir12_2 : IC := .cond (.t 9) ir12_1 .skip
def ir12_3 : IC := .seq ir12_r1 ir12_2
def ir12_r3 : IC := .draw [(⟨some 10, none, false, .fad 1 (.t 1)⟩, false, 0, 0),
  (⟨some 11, none, false, .ldc (.t 10)⟩, false, 1, 1),
  (⟨some 12, none, false, .call (.f 41) [(.t 11)]⟩, false, 3, 1),
  (⟨some 13, none, false, .fad 2 (.t 1)⟩, false, 0, 0),
  (⟨some 14, none, false, .ldc (.t 13)⟩, false, 8, 4),
  (⟨some 15, none, false, .call (.f 42) [(.t 14)]⟩, true, 31, 0),
  (⟨some 16, none, false, .bld [(.slice none 0 0), (.slice none 0 0), (.slice none 0 0), (.slice none 0 0), (.int .i64 0)] [(0, 1, (.t 12)), (1, 1, (.t 15))]⟩, false, 63, 0),
  (⟨some 17, none, false, .box (.t 16)⟩, true, 127, 0),
  (⟨some 4, none, false, .mv (.t 17)⟩, false, 255, 0)] (some [1, 4])
def ir12_r4 : IC := .reg [⟨some 18, none, false, .fad 0 (.t 1)⟩,
  ⟨some 19, none, false, .ldc (.t 18)⟩,
  ⟨some 20, none, false, .len (.t 19)⟩,
  ⟨some 21, none, false, .mv (.k (.int .i64 0))⟩] (some [4, 19, 20, 21])
def ir12_r5 : IC := .reg [⟨some 22, none, false, .cmp .lss (.t 21) (.t 20)⟩] (some [4, 19, 20, 21, 22])
def ir12_4 : IC := .cond (.t 22) .skip (.exit 0)
def ir12_r6 : IC := .reg [⟨some 23, none, false, .mv (.t 21)⟩,
  ⟨some 24, none, false, .iad 5 (.t 19) (.t 21)⟩,
  ⟨some 25, none, false, .lda 5 (.t 24)⟩,
  ⟨some 6, none, false, .alloc [(.int .i64 0), (.int .i64 0), (.int .i64 0), (.int .i64 0), (.slice none 0 0)]⟩,
  ⟨some 5, none, false, .mv (.t 23)⟩,
  ⟨none, none, false, .st 5 (.t 6) (.t 25)⟩] (some [4, 5, 6, 19, 20, 21])
def ir12_r7 : IC := .draw [(⟨some 26, none, false, .mv (.t 4)⟩, false, 0, 0),
  (⟨some 27, none, false, .mv (.t 4)⟩, false, 0, 0),
  (⟨some 28, none, false, .nilck (.t 27)⟩, false, 2, 0),
  (⟨some 29, none, false, .fad 2 (.t 28)⟩, false, 6, 0),
  (⟨some 30, none, false, .ldc (.t 29)⟩, false, 14, 16385),
  (⟨some 31, none, false, .lda 5 (.t 6)⟩, false, 0, 16399),
  (⟨some 32, none, false, .mv (.t 5)⟩, false, 0, 0),
  (⟨some 33, none, false, .fad 3 (.t 6)⟩, false, 0, 0),
  (⟨some 34, none, false, .lda 2 (.t 33)⟩, false, 128, 16399),
  (⟨some 35, none, false, .call (.f 43) [(.t 34)]⟩, false, 384, 16399),
  (⟨some 36, none, false, .gen (.makeMap 125 none)⟩, false, 0, 16783),
  (⟨some 37, none, false, .bld [(.int .i64 0), (.int .i64 0), (.int .i64 0), (.int .i64 0), (.slice none 0 0), (.int .i64 0), (.pointer none), (.int .i64 0), (.bool false), (.int .i64 0), (.pointer none), (.slice none 0 0), (.map none)] [(0, 5, (.t 31)), (5, 1, (.t 32)), (10, 1, (.t 35)), (12, 1, (.t 36))]⟩, false, 2016, 0),
  (⟨some 38, none, false, .box (.t 37)⟩, false, 4064, 16399),
  (⟨some 39, none, false, .bsl 1 1 [(.pointer none)] [(0, (.t 38))]⟩, false, 8160, 16399),
  (⟨some 40, none, false, .app 1 8 (.t 30) (.t 39)⟩, true, 16382, 0),
  (⟨some 41, none, false, .nilck (.t 26)⟩, false, 32767, 0),
  (⟨some 42, none, false, .fad 2 (.t 41)⟩, false, 65535, 0),
  (⟨none, none, false, .st 1 (.t 42) (.t 40)⟩, true, 131071, 0)] (some [4, 19, 20, 21])
def ir12_5 : IC := .seq ir12_r6 ir12_r7
def ir12_6 : IC := .block 1 ir12_5
def ir12_r8 : IC := .reg [⟨some 43, none, false, .ar .add (.t 21) (.k (.int .i64 1))⟩,
  ⟨some 21, none, false, .mv (.t 43)⟩] (some [4, 19, 20, 21])
def ir12_7 : IC := .seq ir12_6 ir12_r8
def ir12_8 : IC := .seq ir12_4 ir12_7
def ir12_9 : IC := .seq ir12_r5 ir12_8
def ir12_10 : IC := .loop ir12_9
def ir12_11 : IC := .block 0 ir12_10
def ir12_12 : IC := .seq ir12_r4 ir12_11
def ir12_r9 : IC := .reg [⟨some 44, none, false, .mv (.t 4)⟩,
  ⟨some 2, none, false, .mv (.t 44)⟩,
  ⟨some 3, none, false, .mv (.k (.int .i64 0))⟩] (some [2, 3])
def ir12_13 : IC := .seq ir12_r9 .ret
def ir12_14 : IC := .seq ir12_12 ir12_13
def ir12_15 : IC := .seq ir12_r3 ir12_14
def ir12_16 : IC := .seq ir12_3 ir12_15
def ir12_17 : IC := .seq ir12_r0 ir12_16
def ir12 : IC := ir12_17
theorem fn12 : FnIs Try.prog 12 ir12 45 [.tmp 2, .tmp 3] := ⟨Try.f12, Try.f12.body.getD .skip, Try.func12, by kernel_rfl, by kernel_rfl, by kernel_rfl, by kernel_rfl⟩
/- (*boule/shop.Shop).Enter · slots 34 · names 0:s 1:s · results [2, 3] -/
def ir40_r0 : IC := .reg [⟨some 2, none, false, .mv (.k (.int .i64 0))⟩,
  ⟨some 3, none, false, .mv (.k (.int .i64 0))⟩] (some [0])
def ir40_r1 : IC := .reg [⟨some 5, none, false, .mv (.t 0)⟩,
  ⟨some 6, none, false, .gen (.binOp .eql 33 (.tmp 5) (.const (.pointer none)) 33)⟩,
  ⟨some 4, none, false, .mv (.t 6)⟩] (some [0, 4])
def ir40_r2 : IC := .reg [⟨some 2, none, false, .mv (.k (.int .i64 0))⟩,
  ⟨some 3, none, false, .mv (.k (.int .i64 1))⟩] (some [2, 3])
def ir40_1 : IC := .seq ir40_r2 .ret
def ir40_r3 : IC := .reg [⟨some 8, none, false, .mv (.t 0)⟩,
  ⟨some 9, none, false, .nilck (.t 8)⟩,
  ⟨some 10, none, false, .fad 3 (.t 9)⟩,
  ⟨some 11, none, false, .ldc (.t 10)⟩,
  ⟨some 12, none, false, .len (.t 11)⟩,
  ⟨some 13, none, false, .cmp .geq (.t 12) (.k (.int .i64 40))⟩,
  ⟨some 7, none, false, .mv (.t 13)⟩] (some [0, 7])
def ir40_r4 : IC := .reg [⟨some 2, none, false, .mv (.k (.int .i64 0))⟩,
  ⟨some 3, none, false, .mv (.k (.int .i64 8))⟩] (some [2, 3])
def ir40_2 : IC := .seq ir40_r4 .ret
def ir40_3 : IC := .cond (.t 7) ir40_2 .skip
def ir40_4 : IC := .seq ir40_r3 ir40_3
def ir40_5 : IC := .cond (.t 4) ir40_1 ir40_4
def ir40_6 : IC := .seq ir40_r1 ir40_5
def ir40_7 : IC := .block 0 ir40_6
def ir40_r5 : IC := .draw [(⟨some 14, none, false, .mv (.t 0)⟩, false, 0, 0),
  (⟨some 15, none, false, .mv (.t 0)⟩, false, 0, 0),
  (⟨some 16, none, false, .nilck (.t 15)⟩, false, 2, 0),
  (⟨some 17, none, false, .fad 3 (.t 16)⟩, false, 6, 0),
  (⟨some 18, none, false, .ldc (.t 17)⟩, false, 14, 4097),
  (⟨some 19, none, false, .mv (.t 0)⟩, false, 0, 0),
  (⟨some 20, none, false, .nilck (.t 19)⟩, false, 32, 0),
  (⟨some 21, none, false, .fad 4 (.t 20)⟩, false, 96, 0),
  (⟨some 22, none, false, .ldc (.t 21)⟩, false, 224, 4111),
  (⟨some 23, none, false, .bld [(.int .i64 0), (.pointer none), (.int .i64 0), (.int .u8 0), (.int .i64 0)] [(2, 1, (.t 22))]⟩, false, 480, 0),
  (⟨some 24, none, false, .box (.t 23)⟩, false, 992, 4111),
  (⟨some 25, none, false, .bsl 1 1 [(.pointer none)] [(0, (.t 24))]⟩, false, 2016, 4111),
  (⟨some 26, none, false, .app 1 8 (.t 18) (.t 25)⟩, true, 4094, 0),
  (⟨some 27, none, false, .nilck (.t 14)⟩, false, 8191, 0),
  (⟨some 28, none, false, .fad 3 (.t 27)⟩, false, 16383, 0),
  (⟨none, none, false, .st 1 (.t 28) (.t 26)⟩, true, 32767, 0)] (some [0])
def ir40_r6 : IC := .reg [⟨some 29, none, false, .mv (.t 0)⟩,
  ⟨some 30, none, false, .nilck (.t 29)⟩,
  ⟨some 31, none, false, .fad 3 (.t 30)⟩,
  ⟨some 32, none, false, .ldc (.t 31)⟩,
  ⟨some 33, none, false, .len (.t 32)⟩,
  ⟨some 2, none, false, .mv (.t 33)⟩,
  ⟨some 3, none, false, .mv (.k (.int .i64 0))⟩] (some [2, 3])
def ir40_8 : IC := .seq ir40_r6 .ret
def ir40_9 : IC := .seq ir40_r5 ir40_8
def ir40_10 : IC := .seq ir40_7 ir40_9
def ir40_11 : IC := .seq ir40_r0 ir40_10
def ir40 : IC := ir40_11
theorem fn40 : FnIs Try.prog 40 ir40 34 [.tmp 2, .tmp 3] := ⟨Try.f40, Try.f40.body.getD .skip, Try.func40, by kernel_rfl, by kernel_rfl, by kernel_rfl, by kernel_rfl⟩
abbrev r110 : List Value := [.int .i64 1, .int .i64 1, .int .i64 0]
theorem watch_x {wl ku z : Nat} {op : Bool} {L : List (Option AObj)} (hw : wl ≤ L.length) (hU : (L[ku]?).join = some (cO r110 z op)) :
    Fc Try.prog 43 [.agg ⟨[.int .i64 0, slO ku 1 1]⟩] (Hp wl L) (pt (L.length + 4)) (Hp wl (L ++ [some (cO [.int .i64 0, slO (L.length + 2) 1 openB] 1 false), some (cO [] 3 false), some (cO r110 3 true), some (.map [] 0), some (cO [.int .i64 0, slO (L.length + 2) 1 openB, .int .i64 0, .map (some (L.length + 3))] 1 false)])) := by
  have hU' := fun T => join_app (T := T) hU
  have hrw : rows eW [(1, 1, 0)] = r110 := rfl
  refine Fc.introX fn43 (by simp) (fun hw => grow_hq (by simp) (List.take_append_of_le_length hw)) ?_; simp only [argF]
  refine ITri.seq ?_
  refine ITri.reg pok ?_; simp -implicitDefEqProofs (disch := first | decide | exact of_eq_true (eq_true rfl) | omega | assumption) only [ ↓vcD, vcE, ↓vcG, vcF, evs, evP, evB, intsOf, fillC, Value.cells, pt, Value.oneCell', reduceIte, reduceCtorEq, Nat.reduceEqDiff, Nat.reduceAdd, Nat.reduceMul, Nat.reduceLT, Nat.reduceBEq, Nat.reduceLeDiff, Nat.reduceSub] -- r0
  refine ITri.seq ?_
  refine ITri.reg pok ?_; simp -implicitDefEqProofs (disch := first | decide | exact of_eq_true (eq_true rfl) | omega | assumption) only [apd_get, apd_get0, apd_set0, apd_set, List.length_append, List.append_assoc, Nat.add_assoc,  ↓vcD, vcE, ↓vcG, vcF, evs, evP, evB, intsOf, fillC, Value.cells, pt, Value.oneCell', reduceIte, reduceCtorEq, Nat.reduceEqDiff, Nat.reduceAdd, Nat.reduceMul, Nat.reduceLT, Nat.reduceBEq, Nat.reduceLeDiff, Nat.reduceSub] -- r1
  refine ⟨_, _, cloneU_f (xs := [(1, 1, 0)]) (z := z) (op := op) (by rw [hrw]; exact hU' _) rfl (by omega) (by omega), ?_⟩
  simp -implicitDefEqProofs (disch := first | decide | exact of_eq_true (eq_true rfl) | omega | assumption) only [apd_get, apd_get0, apd_set0, apd_set, List.length_append, List.append_assoc, Nat.add_assoc, hw,  ↓vcD, vcE, ↓vcG, vcF, evs, evP, evB, intsOf, fillC, Value.cells, pt, Value.oneCell', reduceIte, reduceCtorEq, Nat.reduceEqDiff, Nat.reduceAdd, Nat.reduceMul, Nat.reduceLT, Nat.reduceBEq, Nat.reduceLeDiff, Nat.reduceSub]
  refine ITri.seq ?_
  refine ITri.reg pok ?_; simp -implicitDefEqProofs (disch := first | decide | exact of_eq_true (eq_true rfl) | omega | assumption) only [apd_get, apd_get0, apd_set0, apd_set, List.length_append, List.append_assoc, Nat.add_assoc,  ↓vcD, vcE, ↓vcG, vcF, evs, evP, evB, intsOf, fillC, Value.cells, pt, Value.oneCell', reduceIte, reduceCtorEq, Nat.reduceEqDiff, Nat.reduceAdd, Nat.reduceMul, Nat.reduceLT, Nat.reduceBEq, Nat.reduceLeDiff, Nat.reduceSub] -- r2
  refine gen_mkmap (by kernel_rfl) ?_
  simp -implicitDefEqProofs (disch := first | decide | exact of_eq_true (eq_true rfl) | omega | assumption) only [apd_get, apd_get0, apd_set0, apd_set, List.length_append, List.append_assoc, Nat.add_assoc, Hq_new,  ↓vcD, vcE, ↓vcG, vcF, evs, evP, evB, intsOf, fillC, Value.cells, pt, Value.oneCell', reduceIte, reduceCtorEq, Nat.reduceEqDiff, Nat.reduceAdd, Nat.reduceMul, Nat.reduceLT, Nat.reduceBEq, Nat.reduceLeDiff, Nat.reduceSub]
  refine ITri.ret ?_; exact EndX.mk (by simp) (by rfl) (by rfl) (by rfl)
section
variable {A B C D : Option AObj} {n m : Nat} {rc rt : List Rg} {life : Int}
/-- opened's memory when it calls New: the plan and its rows. -/
abbrev nM (A B C D : Option AObj) (n m : Nat) (rc rt : List Rg) (life : Int) : List (Option AObj) :=
  [none, A, B, C, D, some (cO [slO 8 1 openB, slO 6 n openB, slO 9 m openB] 1 false), some (cO (rows eR rc) 2 true), some (cO r110 3 false), some (cO [.int .i64 (rcpI n), .int .i64 10, .int .i64 life, .int .i64 0, slO 7 1 1] 5 true), some (cO (rows eR rt) 2 true)]
/-- What New makes, but for the tools. -/
abbrev nX (n m : Nat) (rc rt : List Rg) (tools : Value) (T : List (Option AObj)) : List (Option AObj) :=
  some (cO [slO 8 1 openB, slO 6 n openB, slO 9 m openB] 1 false) :: some (cO [] 2 false) :: some (cO (rows eR rc) 2 true) :: some (cO [] 2 false) :: some (cO (rows eR rt) 2 true) :: some (cO [slO 12 n openB, slO 14 m openB, tools, .slice none 0 0, .int .i64 0] 1 false) :: T
/-- The tool's part of it. -/
abbrev nY (n : Nat) (life : Int) : List (Option AObj) :=
  [some (cO [.int .i64 (rcpI n), .int .i64 10, .int .i64 life, .int .i64 0, slO 7 1 1] 1 false), some (cO [.int .i64 0, slO 19 1 openB] 1 false), some (cO [] 3 false), some (cO r110 3 true), some (.map [] 0), some (cO [.int .i64 0, slO 19 1 openB, .int .i64 0, .map (some 20)] 1 false),
   some (.map [] 0), some (cO [.int .i64 (rcpI n), .int .i64 10, .int .i64 life, .int .i64 0, slO 7 1 1, .int .i64 0, .pointer none, .int .i64 0, .bool false, .int .i64 0, pt 21, .slice none 0 0, .map (some 22)] 1 false), some (cO [pt 23] 1 false), some (cO [pt 23] 1 true)]
theorem new_x (hrc : rc.length = n) (hrt : rt.length = m) (hn : 1 ≤ n ∧ n ≤ 8) (hm : 1 ≤ m ∧ m ≤ 12) (hl : 0 ≤ life ∧ life ≤ 1000000)
    (hrg : ∀ i, i < n → (nth rc i).1 = 5 ∧ 0 ≤ (nth rc i).2 ∧ (nth rc i).2 ≤ 1000000) (hqg : ∀ i, i < m → 0 ≤ (nth rt i).1 ∧ (nth rt i).1 < n ∧ (nth rt i).2 = 1000000) :
    Fc Try.prog 12 [plV 8 6 9 n m] (Hp 3 (nM A B C D n m rc rt life)) (.tuple #[pt 15, .int .i64 0]) (Hp 3 (nM A B C D n m rc rt life ++ nX n m rc rt (slO 25 1 openB) (nY n life))) := by
  have hnn : ∀ a, (notNil (.pointer (some a)) = true) = True := fun a => eq_true rfl
  refine Fc.introX fn12 (by simp) (fun _ => grow_hq (by simp) (by rfl)) ?_; simp only [argF]
  refine ITri.seq ?_
  refine ITri.reg pok ?_; simp -implicitDefEqProofs (disch := first | decide | exact of_eq_true (eq_true rfl) | omega | assumption) only [ ↓vcD, vcE, ↓vcG, vcF, evs, evP, evB, intsOf, fillC, Value.cells, pt, Value.oneCell', reduceIte, reduceCtorEq, Nat.reduceEqDiff, Nat.reduceAdd, Nat.reduceMul, Nat.reduceLT, Nat.reduceBEq, Nat.reduceLeDiff, Nat.reduceSub] -- r0
  refine ITri.seq ?_
  refine ITri.seq ?_
  refine ITri.reg pok ?_; simp -implicitDefEqProofs (disch := first | decide | exact of_eq_true (eq_true rfl) | omega | assumption) only [ ↓vcD, vcE, ↓vcG, vcF, evs, evP, evB, intsOf, fillC, Value.cells, pt, Value.oneCell', reduceIte, reduceCtorEq, Nat.reduceEqDiff, Nat.reduceAdd, Nat.reduceMul, Nat.reduceLT, Nat.reduceBEq, Nat.reduceLeDiff, Nat.reduceSub] -- r1
  refine ⟨_, _, Fc.relax (by simp) (checkPlan_f (kt := 8) (kr := 6) (kq := 9) (ku := 7) (by simp) hrc hrt hn hm hl rfl rfl rfl rfl hrg hqg), ?_⟩
  try simp -implicitDefEqProofs (disch := first | decide | exact of_eq_true (eq_true rfl) | omega | assumption) only [ ↓vcD, vcE, ↓vcG, vcF, evs, evP, evB, intsOf, fillC, Value.cells, pt, Value.oneCell', reduceIte, reduceCtorEq, Nat.reduceEqDiff, Nat.reduceAdd, Nat.reduceMul, Nat.reduceLT, Nat.reduceBEq, Nat.reduceLeDiff, Nat.reduceSub]
  refine ITri.cond (v := false) rfl (fun h => by cases h) (fun _ => ?_); refine ITri.skip ?_; simp only [SeqQ_normal, BlkQ_normal]
  refine ITri.seq ?_
  refine ITri.draw pok ?_; simp -implicitDefEqProofs (disch := first | decide | exact of_eq_true (eq_true rfl) | omega | assumption) only [ ↓vcD, vcE, ↓vcG, vcF, evs, evP, evB, intsOf, fillC, Value.cells, pt, Value.oneCell', reduceIte, reduceCtorEq, Nat.reduceEqDiff, Nat.reduceAdd, Nat.reduceMul, Nat.reduceLT, Nat.reduceBEq, Nat.reduceLeDiff, Nat.reduceSub] -- r3
  refine ⟨_, _, cloneR_f (xs := rc) rfl hrc (by omega) (by omega), ?_⟩
  try simp -implicitDefEqProofs (disch := first | decide | exact of_eq_true (eq_true rfl) | omega | assumption) only [ ↓vcD, vcE, ↓vcG, vcF, evs, evP, evB, intsOf, fillC, Value.cells, pt, Value.oneCell', reduceIte, reduceCtorEq, Nat.reduceEqDiff, Nat.reduceAdd, Nat.reduceMul, Nat.reduceLT, Nat.reduceBEq, Nat.reduceLeDiff, Nat.reduceSub]
  refine ⟨_, _, cloneQ_f (xs := rt) rfl hrt (by omega) (by omega), ?_⟩
  try simp -implicitDefEqProofs (disch := first | decide | exact of_eq_true (eq_true rfl) | omega | assumption) only [ ↓vcD, vcE, ↓vcG, vcF, evs, evP, evB, intsOf, fillC, Value.cells, pt, Value.oneCell', reduceIte, reduceCtorEq, Nat.reduceEqDiff, Nat.reduceAdd, Nat.reduceMul, Nat.reduceLT, Nat.reduceBEq, Nat.reduceLeDiff, Nat.reduceSub]
  refine ITri.seq ?_
  refine ITri.seq ?_
  refine ITri.reg pok ?_; simp -implicitDefEqProofs (disch := first | decide | exact of_eq_true (eq_true rfl) | omega | assumption) only [ ↓vcD, vcE, ↓vcG, vcF, evs, evP, evB, intsOf, fillC, Value.cells, pt, Value.oneCell', reduceIte, reduceCtorEq, Nat.reduceEqDiff, Nat.reduceAdd, Nat.reduceMul, Nat.reduceLT, Nat.reduceBEq, Nat.reduceLeDiff, Nat.reduceSub] -- r4
  refine ITri.block ?_ -- 0
  refine ITri.loop (fun p : Nat × Value × List (Option AObj) => [(4, pt 15), (19, slO 8 1 openB), (20, .int .i64 1), (21, .int .i64 p.1)]) (fun _ => []) (fun p => Hp 3 (nM A B C D n m rc rt life ++ nX n m rc rt p.2.1 p.2.2)) (fun p => p = (0, .slice none 0 0, []) ∨ p = (1, slO 25 1 openB, nY n life)) (fun p => 1 - p.1) (0, .slice none 0 0, []) (.inl rfl) (Wk.sub ⟨rfl, rfl, rfl, rfl, trivial⟩) (fun p hp => ?_)
  refine ITri.seq ?_
  refine ITri.reg pok ?_; simp -implicitDefEqProofs (disch := first | decide | exact of_eq_true (eq_true rfl) | omega | assumption) only [ ↓vcD, vcE, ↓vcG, vcF, evs, evP, evB, intsOf, fillC, Value.cells, pt, Value.oneCell', reduceIte, reduceCtorEq, Nat.reduceEqDiff, Nat.reduceAdd, Nat.reduceMul, Nat.reduceLT, Nat.reduceBEq, Nat.reduceLeDiff, Nat.reduceSub] -- r5
  refine ITri.seq ?_
  rcases hp with rfl | rfl
  · refine ITri.cond (v := true) rfl (fun _ => ?_) (fun h => by cases h)
    refine ITri.skip ?_; simp only [SeqQ_normal, BlkQ_normal]
    refine ITri.seq ?_
    refine ITri.block ?_ -- 1
    refine ITri.seq ?_
    refine ITri.reg pok ?_; simp -implicitDefEqProofs (disch := first | decide | exact of_eq_true (eq_true rfl) | omega | assumption) only [List.cons_append, List.nil_append,  ↓vcD, vcE, ↓vcG, vcF, evs, evP, evB, intsOf, fillC, Value.cells, pt, Value.oneCell', reduceIte, reduceCtorEq, Nat.reduceEqDiff, Nat.reduceAdd, Nat.reduceMul, Nat.reduceLT, Nat.reduceBEq, Nat.reduceLeDiff, Nat.reduceSub] -- r6
    refine ITri.draw pok ?_; simp -implicitDefEqProofs (disch := first | decide | exact of_eq_true (eq_true rfl) | omega | assumption) only [hnn,  ↓vcD, vcE, ↓vcG, vcF, evs, evP, evB, intsOf, fillC, Value.cells, pt, Value.oneCell', reduceIte, reduceCtorEq, Nat.reduceEqDiff, Nat.reduceAdd, Nat.reduceMul, Nat.reduceLT, Nat.reduceBEq, Nat.reduceLeDiff, Nat.reduceSub] -- r7
    refine ⟨_, _, watch_x (z := 3) (op := false) (by simp) rfl, ?_⟩
    simp -implicitDefEqProofs (disch := first | decide | exact of_eq_true (eq_true rfl) | omega | assumption) only [List.cons_append, List.nil_append, List.length_cons, List.length_nil,  ↓vcD, vcE, ↓vcG, vcF, evs, evP, evB, intsOf, fillC, Value.cells, pt, Value.oneCell', reduceIte, reduceCtorEq, Nat.reduceEqDiff, Nat.reduceAdd, Nat.reduceMul, Nat.reduceLT, Nat.reduceBEq, Nat.reduceLeDiff, Nat.reduceSub]
    refine gen_mkmap (by kernel_rfl) ?_
    simp -implicitDefEqProofs (disch := first | decide | exact of_eq_true (eq_true rfl) | omega | assumption) only [Hq_new, hnn, List.cons_append, List.nil_append, List.length_cons, List.length_nil,  ↓vcD, vcE, ↓vcG, vcF, evs, evP, evB, intsOf, fillC, Value.cells, pt, Value.oneCell', reduceIte, reduceCtorEq, Nat.reduceEqDiff, Nat.reduceAdd, Nat.reduceMul, Nat.reduceLT, Nat.reduceBEq, Nat.reduceLeDiff, Nat.reduceSub]
    refine ITri.reg pok ?_; simp -implicitDefEqProofs (disch := first | decide | exact of_eq_true (eq_true rfl) | omega | assumption) only [ ↓vcD, vcE, ↓vcG, vcF, evs, evP, evB, intsOf, fillC, Value.cells, pt, Value.oneCell', reduceIte, reduceCtorEq, Nat.reduceEqDiff, Nat.reduceAdd, Nat.reduceMul, Nat.reduceLT, Nat.reduceBEq, Nat.reduceLeDiff, Nat.reduceSub] -- r8
    exact LoopQ.next (1, slO 25 1 openB, nY n life) (.inr rfl) (by simp) (Wk.sub ⟨rfl, rfl, rfl, rfl, trivial⟩)
  · refine ITri.cond (v := false) rfl (fun h => by cases h) (fun _ => ?_)
    refine ITri.exit ?_; try simp -implicitDefEqProofs (disch := first | decide | exact of_eq_true (eq_true rfl) | omega | assumption) only [ ↓vcD, vcE, ↓vcG, vcF, evs, evP, evB, intsOf, fillC, Value.cells, pt, Value.oneCell', reduceIte, reduceCtorEq, Nat.reduceEqDiff, Nat.reduceAdd, Nat.reduceMul, Nat.reduceLT, Nat.reduceBEq, Nat.reduceLeDiff, Nat.reduceSub]
    refine ITri.seq ?_
    refine ITri.reg pok ?_; simp -implicitDefEqProofs (disch := first | decide | exact of_eq_true (eq_true rfl) | omega | assumption) only [ ↓vcD, vcE, ↓vcG, vcF, evs, evP, evB, intsOf, fillC, Value.cells, pt, Value.oneCell', reduceIte, reduceCtorEq, Nat.reduceEqDiff, Nat.reduceAdd, Nat.reduceMul, Nat.reduceLT, Nat.reduceBEq, Nat.reduceLeDiff, Nat.reduceSub] -- r9
    refine ITri.ret ?_; exact EndX.mk (by simp) (by rfl) (by rfl) (by rfl)
/-- What New and Enter make. -/
abbrev nZ (n m : Nat) (rc rt : List Rg) (tools lots : Value) (T : List (Option AObj)) : List (Option AObj) :=
  some (cO [slO 8 1 openB, slO 6 n openB, slO 9 m openB] 1 false) :: some (cO [] 2 false) :: some (cO (rows eR rc) 2 true) :: some (cO [] 2 false) :: some (cO (rows eR rt) 2 true) :: some (cO [slO 12 n openB, slO 14 m openB, tools, lots, .int .i64 0] 1 false) :: T
theorem enter_x : Fc Try.prog 40 [pt 15] (Hp 3 (nM A B C D n m rc rt life ++ nX n m rc rt (slO 25 1 openB) (nY n life))) (.tuple #[.int .i64 1, .int .i64 0])
    (Hp 3 (nM A B C D n m rc rt life ++ nZ n m rc rt (slO 25 1 openB) (slO 28 1 openB) (nY n life ++ [some (cO [.int .i64 0, .pointer none, .int .i64 0, .int .u8 0, .int .i64 0] 1 false), some (cO [pt 26] 1 false), some (cO [pt 26] 1 true)]))) := by
  have hnn : ∀ a, (notNil (.pointer (some a)) = true) = True := fun a => eq_true rfl
  have h40 : decide ((((0 : Nat) : Int)) ≥ 40) = false := rfl
  refine Fc.introX fn40 (by simp) (fun _ => grow_hq (by simp) (by rfl)) ?_; simp only [argF]
  refine ITri.seq ?_
  refine ITri.reg pok ?_; simp -implicitDefEqProofs (disch := first | decide | exact of_eq_true (eq_true rfl) | omega | assumption) only [ ↓vcD, vcE, ↓vcG, vcF, evs, evP, evB, intsOf, fillC, Value.cells, pt, Value.oneCell', reduceIte, reduceCtorEq, Nat.reduceEqDiff, Nat.reduceAdd, Nat.reduceMul, Nat.reduceLT, Nat.reduceBEq, Nat.reduceLeDiff, Nat.reduceSub] -- r0
  refine ITri.seq ?_
  refine ITri.block ?_ -- 0
  refine ITri.seq ?_
  refine ITri.reg pok ?_; simp -implicitDefEqProofs (disch := first | decide | exact of_eq_true (eq_true rfl) | omega | assumption) only [ ↓vcD, vcE, ↓vcG, vcF, evs, evP, evB, intsOf, fillC, Value.cells, pt, Value.oneCell', reduceIte, reduceCtorEq, Nat.reduceEqDiff, Nat.reduceAdd, Nat.reduceMul, Nat.reduceLT, Nat.reduceBEq, Nat.reduceLeDiff, Nat.reduceSub] -- r1
  refine gen_peq (by kernel_rfl) rfl ?_
  try simp -implicitDefEqProofs (disch := first | decide | exact of_eq_true (eq_true rfl) | omega | assumption) only [ ↓vcD, vcE, ↓vcG, vcF, evs, evP, evB, intsOf, fillC, Value.cells, pt, Value.oneCell', reduceIte, reduceCtorEq, Nat.reduceEqDiff, Nat.reduceAdd, Nat.reduceMul, Nat.reduceLT, Nat.reduceBEq, Nat.reduceLeDiff, Nat.reduceSub]
  refine ITri.cond (v := false) rfl (fun h => by cases h) (fun _ => ?_)
  refine ITri.seq ?_
  refine ITri.reg pok ?_; simp -implicitDefEqProofs (disch := first | decide | exact of_eq_true (eq_true rfl) | omega | assumption) only [hnn,  ↓vcD, vcE, ↓vcG, vcF, evs, evP, evB, intsOf, fillC, Value.cells, pt, Value.oneCell', reduceIte, reduceCtorEq, Nat.reduceEqDiff, Nat.reduceAdd, Nat.reduceMul, Nat.reduceLT, Nat.reduceBEq, Nat.reduceLeDiff, Nat.reduceSub] -- r3
  refine ITri.cond (v := false) rfl (fun h => by cases h) (fun _ => ?_); refine ITri.skip ?_; simp only [SeqQ_normal, BlkQ_normal]
  refine ITri.seq ?_
  refine ITri.draw pok ?_; simp -implicitDefEqProofs (disch := first | decide | exact of_eq_true (eq_true rfl) | omega | assumption) only [hnn,  ↓vcD, vcE, ↓vcG, vcF, evs, evP, evB, intsOf, fillC, Value.cells, pt, Value.oneCell', reduceIte, reduceCtorEq, Nat.reduceEqDiff, Nat.reduceAdd, Nat.reduceMul, Nat.reduceLT, Nat.reduceBEq, Nat.reduceLeDiff, Nat.reduceSub] -- r5
  refine ITri.seq ?_
  refine ITri.reg pok ?_; simp -implicitDefEqProofs (disch := first | decide | exact of_eq_true (eq_true rfl) | omega | assumption) only [hnn,  ↓vcD, vcE, ↓vcG, vcF, evs, evP, evB, intsOf, fillC, Value.cells, pt, Value.oneCell', reduceIte, reduceCtorEq, Nat.reduceEqDiff, Nat.reduceAdd, Nat.reduceMul, Nat.reduceLT, Nat.reduceBEq, Nat.reduceLeDiff, Nat.reduceSub] -- r6
  refine ITri.ret ?_; exact EndX.mk (by simp) (by rfl) (by rfl) (by rfl)
end
end Go.Proofs.Ythoigkgjidcklaa
