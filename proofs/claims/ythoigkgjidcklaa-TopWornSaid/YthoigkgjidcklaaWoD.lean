/-
  Chapter 11, by names: clones, Start of one lot.
-/
import Derived.Test.YthoigkgjidcklaaWoC
set_option linter.unusedSimpArgs false
set_option linter.unusedVariables false
namespace Go.Vm
open Go Go.RowKit
section
variable {P : Program} {w : Bool} {t u : TypeId} {s : Nat} {l : Fr} {h : AH} {K : Value → AH → Prop}
def slTy (P : Program) (t : TypeId) : Bool := match P.underlying t with
  | some (.slice _) => true
  | _ => false
/-- A slice that is not empty is not nil. -/
theorem gen_sne {a : Addr} {n c : Nat} (hu : slTy P t = true) (hl : lk l s = some (.slice (some a) n c)) (hn : isNil (some a) n c = some false) (q : K (.bool false) h) :
    iStep P w (.gen (.binOp .eql t (.tmp s) (.const (.slice none 0 0)) u)) l h K := by
  unfold slTy at hu
  split at hu
  · rename_i el hu'
    refine ⟨_, _, ?_, q⟩
    have e1 : aEnv (trOf l) (.tmp s) = some (.slice (some a) n c) := by simp only [aEnv, trOf_get, hl]
    have e2 : aEnv (trOf l) (.const (.slice none 0 0)) = some (.slice none 0 0) := rfl
    simp only [aOp, e1, e2, noAddr, Bool.false_and, Bool.false_eq_true, if_false, aEq, hu', hn]
  · cases hu
theorem gen_mapUC {m r k : Nat} {key v : Value} {h' : AH} (hm : lk l m = some (.map (some r))) (hk : lk l k = some key) (hx : aEnv (trOf l) (.const v) = some v) (e : aMapUpdate P h t (.map (some r)) key v = some h') (q : K undef h') :
    iStep P w (.gen (.mapUpdate t (.tmp m) (.tmp k) (.const v))) l h K := by
  refine ⟨_, _, ?_, q⟩
  have e1 : aEnv (trOf l) (.tmp m) = some (.map (some r)) := by simp only [aEnv, trOf_get, hm]
  have e2 : aEnv (trOf l) (.tmp k) = some key := by simp only [aEnv, trOf_get, hk]
  simp only [aOp, e1, e2, hx, e]
end
end Go.Vm
namespace Go.Proofs.Ythoigkgjidcklaa
open Go.RowKit Go.Vm
set_option maxRecDepth 100000
/- slices.Clone[[]int,int] · slots 8 · names 0:s 1:s · results [2] -/
def ir52_r0 : IC := .reg [⟨some 2, none, false, .mv (.k (.slice none 0 0))⟩] (some [0])
def ir52_r1 : IC := .reg [⟨some 3, none, false, .mv (.t 0)⟩,
  ⟨some 4, none, false, .gen (.binOp .eql 41 (.tmp 3) (.const (.slice none 0 0)) 41)⟩] (some [0, 4])
def ir52_r2 : IC := .reg [⟨some 2, none, false, .mv (.k (.slice none 0 0))⟩] (some [2])
def ir52_1 : IC := .seq ir52_r2 .ret
def ir52_2 : IC := .cond (.t 4) ir52_1 .skip
def ir52_3 : IC := .seq ir52_r1 ir52_2
def ir52_r3 : IC := .reg [⟨some 5, none, false, .bsl 1 0 [] []⟩,
  ⟨some 6, none, false, .mv (.t 0)⟩,
  ⟨some 7, none, false, .app 1 8 (.t 5) (.t 6)⟩,
  ⟨some 2, none, false, .mv (.t 7)⟩] (some [2])
def ir52_4 : IC := .seq ir52_r3 .ret
def ir52_5 : IC := .seq ir52_3 ir52_4
def ir52_6 : IC := .seq ir52_r0 ir52_5
def ir52 : IC := ir52_6
theorem fn52 : FnIs Try.prog 52 ir52 8 [.tmp 2] := ⟨Try.f52, Try.f52.body.getD .skip, Try.func52, by kernel_rfl, by kernel_rfl, by kernel_rfl, by kernel_rfl⟩
/- slices.Clone[[]boule/api.ShopRecipe,boule/api.ShopRecipe] · slots 8 · names 0:s 1:s · results [2] -/
def ir41_r0 : IC := .reg [⟨some 2, none, false, .mv (.k (.slice none 0 0))⟩] (some [0])
def ir41_r1 : IC := .reg [⟨some 3, none, false, .mv (.t 0)⟩,
  ⟨some 4, none, false, .gen (.binOp .eql 23 (.tmp 3) (.const (.slice none 0 0)) 23)⟩] (some [0, 4])
def ir41_r2 : IC := .reg [⟨some 2, none, false, .mv (.k (.slice none 0 0))⟩] (some [2])
def ir41_1 : IC := .seq ir41_r2 .ret
def ir41_2 : IC := .cond (.t 4) ir41_1 .skip
def ir41_3 : IC := .seq ir41_r1 ir41_2
def ir41_r3 : IC := .reg [⟨some 5, none, false, .bsl 2 0 [] []⟩,
  ⟨some 6, none, false, .mv (.t 0)⟩,
  ⟨some 7, none, false, .app 2 16 (.t 5) (.t 6)⟩,
  ⟨some 2, none, false, .mv (.t 7)⟩] (some [2])
def ir41_4 : IC := .seq ir41_r3 .ret
def ir41_5 : IC := .seq ir41_3 ir41_4
def ir41_6 : IC := .seq ir41_r0 ir41_5
def ir41 : IC := ir41_6
theorem fn41 : FnIs Try.prog 41 ir41 8 [.tmp 2] := ⟨Try.f41, Try.f41.body.getD .skip, Try.func41, by kernel_rfl, by kernel_rfl, by kernel_rfl, by kernel_rfl⟩
/- slices.Clone[[]boule/api.RouteStep,boule/api.RouteStep] · slots 8 · names 0:s 1:s · results [2] -/
def ir42_r0 : IC := .reg [⟨some 2, none, false, .mv (.k (.slice none 0 0))⟩] (some [0])
def ir42_r1 : IC := .reg [⟨some 3, none, false, .mv (.t 0)⟩,
  ⟨some 4, none, false, .gen (.binOp .eql 24 (.tmp 3) (.const (.slice none 0 0)) 24)⟩] (some [0, 4])
def ir42_r2 : IC := .reg [⟨some 2, none, false, .mv (.k (.slice none 0 0))⟩] (some [2])
def ir42_1 : IC := .seq ir42_r2 .ret
def ir42_2 : IC := .cond (.t 4) ir42_1 .skip
def ir42_3 : IC := .seq ir42_r1 ir42_2
def ir42_r3 : IC := .reg [⟨some 5, none, false, .bsl 2 0 [] []⟩,
  ⟨some 6, none, false, .mv (.t 0)⟩,
  ⟨some 7, none, false, .app 2 16 (.t 5) (.t 6)⟩,
  ⟨some 2, none, false, .mv (.t 7)⟩] (some [2])
def ir42_4 : IC := .seq ir42_r3 .ret
def ir42_5 : IC := .seq ir42_3 ir42_4
def ir42_6 : IC := .seq ir42_r0 ir42_5
def ir42 : IC := ir42_6
theorem fn42 : FnIs Try.prog 42 ir42 8 [.tmp 2] := ⟨Try.f42, Try.f42.body.getD .skip, Try.func42, by kernel_rfl, by kernel_rfl, by kernel_rfl, by kernel_rfl⟩
/- slices.Clone[[]boule/api.ChartRule,boule/api.ChartRule] · slots 8 · names 0:s 1:s · results [2] -/
def ir89_r0 : IC := .reg [⟨some 2, none, false, .mv (.k (.slice none 0 0))⟩] (some [0])
def ir89_r1 : IC := .reg [⟨some 3, none, false, .mv (.t 0)⟩,
  ⟨some 4, none, false, .gen (.binOp .eql 90 (.tmp 3) (.const (.slice none 0 0)) 90)⟩] (some [0, 4])
def ir89_r2 : IC := .reg [⟨some 2, none, false, .mv (.k (.slice none 0 0))⟩] (some [2])
def ir89_1 : IC := .seq ir89_r2 .ret
def ir89_2 : IC := .cond (.t 4) ir89_1 .skip
def ir89_3 : IC := .seq ir89_r1 ir89_2
def ir89_r3 : IC := .reg [⟨some 5, none, false, .bsl 3 0 [] []⟩,
  ⟨some 6, none, false, .mv (.t 0)⟩,
  ⟨some 7, none, false, .app 3 24 (.t 5) (.t 6)⟩,
  ⟨some 2, none, false, .mv (.t 7)⟩] (some [2])
def ir89_4 : IC := .seq ir89_r3 .ret
def ir89_5 : IC := .seq ir89_3 ir89_4
def ir89_6 : IC := .seq ir89_r0 ir89_5
def ir89 : IC := ir89_6
theorem fn89 : FnIs Try.prog 89 ir89 8 [.tmp 2] := ⟨Try.f89, Try.f89.body.getD .skip, Try.func89, by kernel_rfl, by kernel_rfl, by kernel_rfl, by kernel_rfl⟩
def eW (t : Int × Int × Int) : List Value := [.int .i64 t.1, .int .i64 t.2.1, .int .i64 t.2.2]
instance flW : FlatE eW 3 := ⟨fun _ => rfl, fun _ => rfl, fun _ => rfl⟩
theorem join_app {L T : List (Option AObj)} {k : Nat} {o : AObj} (h : (L[k]?).join = some o) : ((L ++ T)[k]?).join = some o := by
  by_cases hk : k < L.length
  · rw [List.getElem?_append_left hk, h]
  · rw [List.getElem?_eq_none (by omega)] at h
    cases h
section
variable {wl k n c z : Nat} {op : Bool} {L : List (Option AObj)} {cs : List Value}
theorem cloneI_f {xs : List Int} (hg : (L[k]?).join = some (cO (rows eN xs) z op)) (hn : xs.length = n) (h0 : 0 < n) (hb : n ≤ 1000000) :
    Fc Try.prog 52 [slO k n c] (Hp wl L) (slO (L.length + 1) n openB) (Hp wl (L ++ [some (cO [] 1 false), some (cO (rows eN xs) 1 true)])) := by
  have hg' := fun T => join_app (T := T) hg
  have ht : takeC (rows eN xs) 0 n = some (rows eN xs) := takeC_0 _ _ (by rw [rows_len (f := eN), hn, Nat.mul_one])
  have hall : (rows eN xs).all Value.oneCell' = true := rows_one' (f := eN) xs
  refine Fc.introX fn52 (by simp) (fun hw => grow_hq (by simp) (List.take_append_of_le_length hw)) ?_; simp only [argF]
  refine ITri.seq ?_
  refine ITri.reg pok ?_; simp -implicitDefEqProofs (disch := first | decide | exact of_eq_true (eq_true rfl) | omega | assumption) only [ ↓vcD, vcE, ↓vcG, vcF, evs, evP, evB, intsOf, fillC, Value.cells, pt, Value.oneCell', reduceIte, reduceCtorEq, Nat.reduceEqDiff, Nat.reduceAdd, Nat.reduceMul, Nat.reduceLT, Nat.reduceBEq, Nat.reduceLeDiff, Nat.reduceSub]
  refine ITri.seq ?_
  refine ITri.seq ?_
  refine ITri.reg pok ?_; simp -implicitDefEqProofs (disch := first | decide | exact of_eq_true (eq_true rfl) | omega | assumption) only [ ↓vcD, vcE, ↓vcG, vcF, evs, evP, evB, intsOf, fillC, Value.cells, pt, Value.oneCell', reduceIte, reduceCtorEq, Nat.reduceEqDiff, Nat.reduceAdd, Nat.reduceMul, Nat.reduceLT, Nat.reduceBEq, Nat.reduceLeDiff, Nat.reduceSub]
  refine gen_sne (by kernel_rfl) rfl (if_pos (.inl (by omega))) ?_
  try simp -implicitDefEqProofs (disch := first | decide | exact of_eq_true (eq_true rfl) | omega | assumption) only [ ↓vcD, vcE, ↓vcG, vcF, evs, evP, evB, intsOf, fillC, Value.cells, pt, Value.oneCell', reduceIte, reduceCtorEq, Nat.reduceEqDiff, Nat.reduceAdd, Nat.reduceMul, Nat.reduceLT, Nat.reduceBEq, Nat.reduceLeDiff, Nat.reduceSub]
  refine ITri.cond (v := false) rfl (fun h => by cases h) (fun _ => ?_); refine ITri.skip ?_; simp only [SeqQ_normal, BlkQ_normal]
  refine ITri.seq ?_
  refine ITri.reg pok ?_; simp -implicitDefEqProofs (disch := first | decide | exact of_eq_true (eq_true rfl) | omega | assumption) only [apd_get, apd_get0, apd_set0, apd_set, List.length_append, List.append_assoc, Nat.add_assoc, ht, hg', hall,  ↓vcD, vcE, ↓vcG, vcF, evs, evP, evB, intsOf, fillC, Value.cells, pt, Value.oneCell', reduceIte, reduceCtorEq, Nat.reduceEqDiff, Nat.reduceAdd, Nat.reduceMul, Nat.reduceLT, Nat.reduceBEq, Nat.reduceLeDiff, Nat.reduceSub]
  refine ITri.ret ?_; exact EndX.mk (by simp) (by rfl) (by rfl) (by rfl)
theorem cloneR_f {xs : List (Int × Int)} (hg : (L[k]?).join = some (cO (rows eR xs) z op)) (hn : xs.length = n) (h0 : 0 < n) (hb : n ≤ 1000000) :
    Fc Try.prog 41 [slO k n c] (Hp wl L) (slO (L.length + 1) n openB) (Hp wl (L ++ [some (cO [] 2 false), some (cO (rows eR xs) 2 true)])) := by
  have hg' := fun T => join_app (T := T) hg
  have ht : takeC (rows eR xs) 0 (n * 2) = some (rows eR xs) := takeC_0 _ _ (by rw [rows_len (f := eR), hn])
  have hall : (rows eR xs).all Value.oneCell' = true := rows_one' (f := eR) xs
  refine Fc.introX fn41 (by simp) (fun hw => grow_hq (by simp) (List.take_append_of_le_length hw)) ?_; simp only [argF]
  refine ITri.seq ?_
  refine ITri.reg pok ?_; simp -implicitDefEqProofs (disch := first | decide | exact of_eq_true (eq_true rfl) | omega | assumption) only [ ↓vcD, vcE, ↓vcG, vcF, evs, evP, evB, intsOf, fillC, Value.cells, pt, Value.oneCell', reduceIte, reduceCtorEq, Nat.reduceEqDiff, Nat.reduceAdd, Nat.reduceMul, Nat.reduceLT, Nat.reduceBEq, Nat.reduceLeDiff, Nat.reduceSub]
  refine ITri.seq ?_
  refine ITri.seq ?_
  refine ITri.reg pok ?_; simp -implicitDefEqProofs (disch := first | decide | exact of_eq_true (eq_true rfl) | omega | assumption) only [ ↓vcD, vcE, ↓vcG, vcF, evs, evP, evB, intsOf, fillC, Value.cells, pt, Value.oneCell', reduceIte, reduceCtorEq, Nat.reduceEqDiff, Nat.reduceAdd, Nat.reduceMul, Nat.reduceLT, Nat.reduceBEq, Nat.reduceLeDiff, Nat.reduceSub]
  refine gen_sne (by kernel_rfl) rfl (if_pos (.inl (by omega))) ?_
  try simp -implicitDefEqProofs (disch := first | decide | exact of_eq_true (eq_true rfl) | omega | assumption) only [ ↓vcD, vcE, ↓vcG, vcF, evs, evP, evB, intsOf, fillC, Value.cells, pt, Value.oneCell', reduceIte, reduceCtorEq, Nat.reduceEqDiff, Nat.reduceAdd, Nat.reduceMul, Nat.reduceLT, Nat.reduceBEq, Nat.reduceLeDiff, Nat.reduceSub]
  refine ITri.cond (v := false) rfl (fun h => by cases h) (fun _ => ?_); refine ITri.skip ?_; simp only [SeqQ_normal, BlkQ_normal]
  refine ITri.seq ?_
  refine ITri.reg pok ?_; simp -implicitDefEqProofs (disch := first | decide | exact of_eq_true (eq_true rfl) | omega | assumption) only [apd_get, apd_get0, apd_set0, apd_set, List.length_append, List.append_assoc, Nat.add_assoc, ht, hg', hall,  ↓vcD, vcE, ↓vcG, vcF, evs, evP, evB, intsOf, fillC, Value.cells, pt, Value.oneCell', reduceIte, reduceCtorEq, Nat.reduceEqDiff, Nat.reduceAdd, Nat.reduceMul, Nat.reduceLT, Nat.reduceBEq, Nat.reduceLeDiff, Nat.reduceSub]
  refine ITri.ret ?_; exact EndX.mk (by simp) (by rfl) (by rfl) (by rfl)
theorem cloneQ_f {xs : List (Int × Int)} (hg : (L[k]?).join = some (cO (rows eR xs) z op)) (hn : xs.length = n) (h0 : 0 < n) (hb : n ≤ 1000000) :
    Fc Try.prog 42 [slO k n c] (Hp wl L) (slO (L.length + 1) n openB) (Hp wl (L ++ [some (cO [] 2 false), some (cO (rows eR xs) 2 true)])) := by
  have hg' := fun T => join_app (T := T) hg
  have ht : takeC (rows eR xs) 0 (n * 2) = some (rows eR xs) := takeC_0 _ _ (by rw [rows_len (f := eR), hn])
  have hall : (rows eR xs).all Value.oneCell' = true := rows_one' (f := eR) xs
  refine Fc.introX fn42 (by simp) (fun hw => grow_hq (by simp) (List.take_append_of_le_length hw)) ?_; simp only [argF]
  refine ITri.seq ?_
  refine ITri.reg pok ?_; simp -implicitDefEqProofs (disch := first | decide | exact of_eq_true (eq_true rfl) | omega | assumption) only [ ↓vcD, vcE, ↓vcG, vcF, evs, evP, evB, intsOf, fillC, Value.cells, pt, Value.oneCell', reduceIte, reduceCtorEq, Nat.reduceEqDiff, Nat.reduceAdd, Nat.reduceMul, Nat.reduceLT, Nat.reduceBEq, Nat.reduceLeDiff, Nat.reduceSub]
  refine ITri.seq ?_
  refine ITri.seq ?_
  refine ITri.reg pok ?_; simp -implicitDefEqProofs (disch := first | decide | exact of_eq_true (eq_true rfl) | omega | assumption) only [ ↓vcD, vcE, ↓vcG, vcF, evs, evP, evB, intsOf, fillC, Value.cells, pt, Value.oneCell', reduceIte, reduceCtorEq, Nat.reduceEqDiff, Nat.reduceAdd, Nat.reduceMul, Nat.reduceLT, Nat.reduceBEq, Nat.reduceLeDiff, Nat.reduceSub]
  refine gen_sne (by kernel_rfl) rfl (if_pos (.inl (by omega))) ?_
  try simp -implicitDefEqProofs (disch := first | decide | exact of_eq_true (eq_true rfl) | omega | assumption) only [ ↓vcD, vcE, ↓vcG, vcF, evs, evP, evB, intsOf, fillC, Value.cells, pt, Value.oneCell', reduceIte, reduceCtorEq, Nat.reduceEqDiff, Nat.reduceAdd, Nat.reduceMul, Nat.reduceLT, Nat.reduceBEq, Nat.reduceLeDiff, Nat.reduceSub]
  refine ITri.cond (v := false) rfl (fun h => by cases h) (fun _ => ?_); refine ITri.skip ?_; simp only [SeqQ_normal, BlkQ_normal]
  refine ITri.seq ?_
  refine ITri.reg pok ?_; simp -implicitDefEqProofs (disch := first | decide | exact of_eq_true (eq_true rfl) | omega | assumption) only [apd_get, apd_get0, apd_set0, apd_set, List.length_append, List.append_assoc, Nat.add_assoc, ht, hg', hall,  ↓vcD, vcE, ↓vcG, vcF, evs, evP, evB, intsOf, fillC, Value.cells, pt, Value.oneCell', reduceIte, reduceCtorEq, Nat.reduceEqDiff, Nat.reduceAdd, Nat.reduceMul, Nat.reduceLT, Nat.reduceBEq, Nat.reduceLeDiff, Nat.reduceSub]
  refine ITri.ret ?_; exact EndX.mk (by simp) (by rfl) (by rfl) (by rfl)
theorem cloneU_f {xs : List (Int × Int × Int)} (hg : (L[k]?).join = some (cO (rows eW xs) z op)) (hn : xs.length = n) (h0 : 0 < n) (hb : n ≤ 1000000) :
    Fc Try.prog 89 [slO k n c] (Hp wl L) (slO (L.length + 1) n openB) (Hp wl (L ++ [some (cO [] 3 false), some (cO (rows eW xs) 3 true)])) := by
  have hg' := fun T => join_app (T := T) hg
  have ht : takeC (rows eW xs) 0 (n * 3) = some (rows eW xs) := takeC_0 _ _ (by rw [rows_len (f := eW), hn])
  have hall : (rows eW xs).all Value.oneCell' = true := rows_one' (f := eW) xs
  refine Fc.introX fn89 (by simp) (fun hw => grow_hq (by simp) (List.take_append_of_le_length hw)) ?_; simp only [argF]
  refine ITri.seq ?_
  refine ITri.reg pok ?_; simp -implicitDefEqProofs (disch := first | decide | exact of_eq_true (eq_true rfl) | omega | assumption) only [ ↓vcD, vcE, ↓vcG, vcF, evs, evP, evB, intsOf, fillC, Value.cells, pt, Value.oneCell', reduceIte, reduceCtorEq, Nat.reduceEqDiff, Nat.reduceAdd, Nat.reduceMul, Nat.reduceLT, Nat.reduceBEq, Nat.reduceLeDiff, Nat.reduceSub]
  refine ITri.seq ?_
  refine ITri.seq ?_
  refine ITri.reg pok ?_; simp -implicitDefEqProofs (disch := first | decide | exact of_eq_true (eq_true rfl) | omega | assumption) only [ ↓vcD, vcE, ↓vcG, vcF, evs, evP, evB, intsOf, fillC, Value.cells, pt, Value.oneCell', reduceIte, reduceCtorEq, Nat.reduceEqDiff, Nat.reduceAdd, Nat.reduceMul, Nat.reduceLT, Nat.reduceBEq, Nat.reduceLeDiff, Nat.reduceSub]
  refine gen_sne (by kernel_rfl) rfl (if_pos (.inl (by omega))) ?_
  try simp -implicitDefEqProofs (disch := first | decide | exact of_eq_true (eq_true rfl) | omega | assumption) only [ ↓vcD, vcE, ↓vcG, vcF, evs, evP, evB, intsOf, fillC, Value.cells, pt, Value.oneCell', reduceIte, reduceCtorEq, Nat.reduceEqDiff, Nat.reduceAdd, Nat.reduceMul, Nat.reduceLT, Nat.reduceBEq, Nat.reduceLeDiff, Nat.reduceSub]
  refine ITri.cond (v := false) rfl (fun h => by cases h) (fun _ => ?_); refine ITri.skip ?_; simp only [SeqQ_normal, BlkQ_normal]
  refine ITri.seq ?_
  refine ITri.reg pok ?_; simp -implicitDefEqProofs (disch := first | decide | exact of_eq_true (eq_true rfl) | omega | assumption) only [apd_get, apd_get0, apd_set0, apd_set, List.length_append, List.append_assoc, Nat.add_assoc, ht, hg', hall,  ↓vcD, vcE, ↓vcG, vcF, evs, evP, evB, intsOf, fillC, Value.cells, pt, Value.oneCell', reduceIte, reduceCtorEq, Nat.reduceEqDiff, Nat.reduceAdd, Nat.reduceMul, Nat.reduceLT, Nat.reduceBEq, Nat.reduceLeDiff, Nat.reduceSub]
  refine ITri.ret ?_; exact EndX.mk (by simp) (by rfl) (by rfl) (by rfl)
end
end Go.Proofs.Ythoigkgjidcklaa
