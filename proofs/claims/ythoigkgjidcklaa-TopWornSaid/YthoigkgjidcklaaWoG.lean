/-
  Chapter 11, by names: whether something is true of all elements; CheckChart, CheckPlan.
-/
import Derived.Test.YthoigkgjidcklaaWoF
set_option linter.unusedSimpArgs false
set_option linter.unusedVariables false
namespace Go.Vm
open Go Go.RowKit
/-- A contract that leaves all memory as it is holds where some of it is the caller's own. -/
theorem Fc.relax {P : Program} {f wl : Nat} {args : List Value} {v : Value} {L : List (Option AObj)} (hw : wl ≤ L.length) (F : Fc P f args (Hp L.length L) v (Hp L.length L)) : Fc P f args (Hp wl L) v (Hp wl L) := by
  refine ⟨fun _ => Grow.refl _, F.body, fun w0 φ κ w R ha => ?_⟩
  have R1 : Rel w φ κ (Hp L.length L) w := ⟨Below.refl _ _, R.hid, Nat.le_refl _, R.ent, fun k o g _ hk => by have := sees_lt (get_sees g); exact absurd this (Nat.not_lt.2 hk), fun k k' o o' g _ _ _ hk => by have := sees_lt (get_sees g); exact absurd this (Nat.not_lt.2 hk)⟩
  refine (F.run w φ κ w R1 ha).mono ?_
  rintro e w1 ⟨φ', κ', rfl, S, ov⟩
  have hlt : ∀ k o, (Hp wl L).get k = some o → k < L.length := fun k o g => sees_lt (get_sees g)
  have ag : ∀ k o, (Hp wl L).get k = some o → φ' k = φ k ∧ κ' k = κ k := fun k o g => S.agr k fun hh => absurd (hlt k o g) (Nat.not_lt.2 hh.1)
  refine ⟨φ', κ', rfl, ⟨S.agr, ⟨R.below.trans (S.rel.below.mono R.below.size), R.hid, R.wl, S.rel.ent, fun k o g hr hk => ?_, fun k k' o o' g g' hr hr' hk e => ?_⟩, Nat.le_refl _, rfl, rfl, fun _ _ => rfl⟩, ov⟩
  · rw [(ag k o g).1]
    exact R.own k o g (rl_congr (ag k o g).2 hr) hk
  · rw [(ag k o g).1, (ag k' o' g').1] at e
    exact R.inj k k' o o' g g' (rl_congr (ag k o g).2 hr) (rl_congr (ag k' o' g').2 hr') hk e
end Go.Vm
namespace Go.Proofs.Ythoigkgjidcklaa
open Go.RowKit Go.Vm
set_option maxRecDepth 100000
-- BEGIN (gen_wog.py)
/- slices.IndexFunc[[]boule/api.ShopRecipe,boule/api.ShopRecipe] · slots 19 · names 0:s 1:f 2:s 3:f 5:i · results [4] -/
def ir104_r0 : IC := .reg [⟨some 4, none, false, .mv (.k (.int .i64 0))⟩] (some [0, 1])
def ir104_r1 : IC := .reg [⟨some 6, none, false, .mv (.t 0)⟩,
  ⟨some 7, none, false, .len (.t 6)⟩,
  ⟨some 8, none, false, .mv (.k (.int .i64 0))⟩] (some [0, 1, 7, 8])
def ir104_r2 : IC := .reg [⟨some 9, none, false, .cmp .lss (.t 8) (.t 7)⟩] (some [0, 1, 7, 8, 9])
def ir104_1 : IC := .cond (.t 9) .skip (.exit 0)
def ir104_r3 : IC := .reg [⟨some 10, none, false, .mv (.t 8)⟩,
  ⟨some 5, none, false, .mv (.t 10)⟩] (some [0, 1, 5, 7, 8])
def ir104_r4 : IC := .reg [⟨some 11, none, false, .mv (.t 1)⟩,
  ⟨some 12, none, false, .mv (.t 0)⟩,
  ⟨some 13, none, false, .mv (.t 5)⟩,
  ⟨some 14, none, false, .iad 2 (.t 12) (.t 13)⟩,
  ⟨some 15, none, false, .lda 2 (.t 14)⟩,
  ⟨some 16, none, false, .call (.t 11) [(.t 15)]⟩] (some [0, 1, 5, 7, 8, 16])
def ir104_r5 : IC := .reg [⟨some 17, none, false, .mv (.t 5)⟩,
  ⟨some 4, none, false, .mv (.t 17)⟩] (some [4])
def ir104_2 : IC := .seq ir104_r5 .ret
def ir104_3 : IC := .cond (.t 16) ir104_2 .skip
def ir104_4 : IC := .seq ir104_r4 ir104_3
def ir104_5 : IC := .seq ir104_r3 ir104_4
def ir104_6 : IC := .block 1 ir104_5
def ir104_r6 : IC := .reg [⟨some 18, none, false, .ar .add (.t 8) (.k (.int .i64 1))⟩,
  ⟨some 8, none, false, .mv (.t 18)⟩] (some [0, 1, 7, 8])
def ir104_7 : IC := .seq ir104_6 ir104_r6
def ir104_8 : IC := .seq ir104_1 ir104_7
def ir104_9 : IC := .seq ir104_r2 ir104_8
def ir104_10 : IC := .loop ir104_9
def ir104_11 : IC := .block 0 ir104_10
def ir104_12 : IC := .seq ir104_r1 ir104_11
def ir104_r7 : IC := .reg [⟨some 4, none, false, .mv (.k (.int .i64 (-1)))⟩] (some [4])
def ir104_13 : IC := .seq ir104_r7 .ret
def ir104_14 : IC := .seq ir104_12 ir104_13
def ir104_15 : IC := .seq ir104_r0 ir104_14
def ir104 : IC := ir104_15
theorem fn104 : FnIs Try.prog 104 ir104 19 [.tmp 4] := ⟨Try.f104, Try.f104.body.getD .skip, Try.func104, by kernel_rfl, by kernel_rfl, by kernel_rfl, by kernel_rfl⟩
/- slices.ContainsFunc[[]boule/api.ShopRecipe,boule/api.ShopRecipe] · slots 9 · names 0:s 1:f 2:s 3:f · results [4] -/
def ir82_r0 : IC := .reg [⟨some 4, none, false, .mv (.k (.bool false))⟩] (some [0, 1])
def ir82_r1 : IC := .reg [⟨some 5, none, false, .mv (.t 0)⟩,
  ⟨some 6, none, false, .mv (.t 1)⟩,
  ⟨some 7, none, false, .call (.f 104) [(.t 5), (.t 6)]⟩,
  ⟨some 8, none, false, .cmp .geq (.t 7) (.k (.int .i64 0))⟩,
  ⟨some 4, none, false, .mv (.t 8)⟩] (some [4])
def ir82_1 : IC := .seq ir82_r1 .ret
def ir82_2 : IC := .seq ir82_r0 ir82_1
def ir82 : IC := ir82_2
theorem fn82 : FnIs Try.prog 82 ir82 9 [.tmp 4] := ⟨Try.f82, Try.f82.body.getD .skip, Try.func82, by kernel_rfl, by kernel_rfl, by kernel_rfl, by kernel_rfl⟩
/- boule/shop.every[boule/api.ShopRecipe]$1 · slots 8 · names 0:x 2:x · results [3] -/
def ir83_r0 : IC := .reg [⟨some 2, none, false, .box (.t 0)⟩,
  ⟨some 3, none, false, .mv (.k (.bool false))⟩] (some [1, 2])
def ir83_r1 : IC := .reg [⟨some 4, none, false, .ldc (.t 1)⟩,
  ⟨some 5, none, false, .lda 2 (.t 2)⟩,
  ⟨some 6, none, false, .call (.t 4) [(.t 5)]⟩,
  ⟨some 7, none, false, .not (.t 6)⟩,
  ⟨some 3, none, false, .mv (.t 7)⟩] (some [3])
def ir83_1 : IC := .seq ir83_r1 .ret
def ir83_2 : IC := .seq ir83_r0 ir83_1
def ir83 : IC := ir83_2
theorem fn83 : FnIs Try.prog 83 ir83 8 [.tmp 3] := ⟨Try.f83, Try.f83.body.getD .skip, Try.func83, by kernel_rfl, by kernel_rfl, by kernel_rfl, by kernel_rfl⟩
/- boule/shop.every[boule/api.ShopRecipe] · slots 9 · names 0:l 1:is 2:l 3:is · results [4] -/
def ir34_r0 : IC := .reg [⟨some 3, none, false, .box (.t 1)⟩,
  ⟨some 4, none, false, .mv (.k (.bool false))⟩] (some [0, 3])
def ir34_r1 : IC := .reg [⟨some 5, none, false, .mv (.t 0)⟩,
  ⟨some 6, none, false, .mkf 83 [] [(.t 3)]⟩,
  ⟨some 7, none, false, .call (.f 82) [(.t 5), (.t 6)]⟩,
  ⟨some 8, none, false, .not (.t 7)⟩,
  ⟨some 4, none, false, .mv (.t 8)⟩] (some [4])
def ir34_1 : IC := .seq ir34_r1 .ret
def ir34_2 : IC := .seq ir34_r0 ir34_1
def ir34 : IC := ir34_2
theorem fn34 : FnIs Try.prog 34 ir34 9 [.tmp 4] := ⟨Try.f34, Try.f34.body.getD .skip, Try.func34, by kernel_rfl, by kernel_rfl, by kernel_rfl, by kernel_rfl⟩
theorem indexER_x {wl ks c n sz g : Nat} {op : Bool} {cs caps : List Value} {el : Nat → List Value} (L : List (Option AObj)) (p : Nat → Bool) (hb : n ≤ 1000000) (hH : (L[ks]?).join = some (cO cs sz op)) (ht : ∀ k, k < n → takeC cs (k * 2) 2 = some (el k))
    (F : ∀ k, k < n → Fc Try.prog g (.agg ⟨el k⟩ :: caps) (Hp wl L) (.bool (p k)) (Hp wl L)) :
    Fc Try.prog 104 [slO ks n c, .func (.func g) ⟨[]⟩ ⟨caps⟩] (Hp wl L) (.int .i64 (ovI p n)) (Hp wl L) := by
  refine Fc.introX fn104 (by simp) (fun _ => Grow.refl _) ?_
  simp only [argF]
  refine ITri.seq ?_
  refine ITri.reg pok ?_; simp -implicitDefEqProofs (disch := first | decide | exact of_eq_true (eq_true rfl) | omega | assumption) only [ ↓vcD, vcE, ↓vcG, vcF, evs, evP, evB, intsOf, fillC, Value.cells, pt, Value.oneCell', reduceIte, reduceCtorEq, Nat.reduceEqDiff, Nat.reduceAdd, Nat.reduceMul, Nat.reduceLT, Nat.reduceBEq, Nat.reduceLeDiff, Nat.reduceSub] -- r0
  refine ITri.seq ?_
  refine ITri.seq ?_
  refine ITri.reg pok ?_; simp -implicitDefEqProofs (disch := first | decide | exact of_eq_true (eq_true rfl) | omega | assumption) only [ ↓vcD, vcE, ↓vcG, vcF, evs, evP, evB, intsOf, fillC, Value.cells, pt, Value.oneCell', reduceIte, reduceCtorEq, Nat.reduceEqDiff, Nat.reduceAdd, Nat.reduceMul, Nat.reduceLT, Nat.reduceBEq, Nat.reduceLeDiff, Nat.reduceSub] -- r1
  refine ITri.block ?_
  refine ITri.loop (fun k : Nat => [(0, slO ks n c), (1, .func (.func g) ⟨[]⟩ ⟨caps⟩), (7, .int .i64 n), (8, .int .i64 k)]) (fun _ => []) (fun k => Hp wl L) (fun k => k ≤ n ∧ ovI p k = -1) (fun k => n - k) 0 ⟨Nat.zero_le _, rfl⟩ (Wk.sub ⟨rfl, rfl, rfl, rfl, trivial⟩) (fun k hk => ?_)
  obtain ⟨hk, ho⟩ := hk
  refine ITri.seq ?_
  refine ITri.reg pok ?_; simp -implicitDefEqProofs (disch := first | decide | exact of_eq_true (eq_true rfl) | omega | assumption) only [ ↓vcD, vcE, ↓vcG, vcF, evs, evP, evB, intsOf, fillC, Value.cells, pt, Value.oneCell', reduceIte, reduceCtorEq, Nat.reduceEqDiff, Nat.reduceAdd, Nat.reduceMul, Nat.reduceLT, Nat.reduceBEq, Nat.reduceLeDiff, Nat.reduceSub]
  refine ITri.seq ?_
  refine ITri.condD (by rfl) (fun h1 => ?_) (fun h1 => ?_)
  · have h2 : k < n := by omega
    have hg : takeC cs (k * 2) 2 = some (el k) := ht k h2
    refine ITri.skip ?_; simp only [SeqQ_normal, BlkQ_normal]
    refine ITri.seq ?_
    refine ITri.block ?_
    refine ITri.seq ?_
    refine ITri.reg pok ?_; simp -implicitDefEqProofs (disch := first | decide | exact of_eq_true (eq_true rfl) | omega | assumption) only [ ↓vcD, vcE, ↓vcG, vcF, evs, evP, evB, intsOf, fillC, Value.cells, pt, Value.oneCell', reduceIte, reduceCtorEq, Nat.reduceEqDiff, Nat.reduceAdd, Nat.reduceMul, Nat.reduceLT, Nat.reduceBEq, Nat.reduceLeDiff, Nat.reduceSub]
    refine ITri.seq ?_
    refine ITri.reg pok ?_; simp -implicitDefEqProofs (disch := first | decide | exact of_eq_true (eq_true rfl) | omega | assumption) only [hH, hg,  ↓vcD, vcE, ↓vcG, vcF, evs, evP, evB, intsOf, fillC, Value.cells, pt, Value.oneCell', reduceIte, reduceCtorEq, Nat.reduceEqDiff, Nat.reduceAdd, Nat.reduceMul, Nat.reduceLT, Nat.reduceBEq, Nat.reduceLeDiff, Nat.reduceSub]
    refine ⟨_, _, F k h2, ?_⟩
    try simp -implicitDefEqProofs (disch := first | decide | exact of_eq_true (eq_true rfl) | omega | assumption) only [ ↓vcD, vcE, ↓vcG, vcF, evs, evP, evB, intsOf, fillC, Value.cells, pt, Value.oneCell', reduceIte, reduceCtorEq, Nat.reduceEqDiff, Nat.reduceAdd, Nat.reduceMul, Nat.reduceLT, Nat.reduceBEq, Nat.reduceLeDiff, Nat.reduceSub]
    refine ITri.cond (by rfl) (fun h3 => ?_) (fun h3 => ?_)
    · have h4 := ov_hit ho h3 h2
      rw [h4]
      refine ITri.seq ?_
      refine ITri.reg pok ?_; simp -implicitDefEqProofs (disch := first | decide | exact of_eq_true (eq_true rfl) | omega | assumption) only [ ↓vcD, vcE, ↓vcG, vcF, evs, evP, evB, intsOf, fillC, Value.cells, pt, Value.oneCell', reduceIte, reduceCtorEq, Nat.reduceEqDiff, Nat.reduceAdd, Nat.reduceMul, Nat.reduceLT, Nat.reduceBEq, Nat.reduceLeDiff, Nat.reduceSub]
      refine ITri.ret ?_; exact EndX.mk (by simp) (by rfl) (by rfl) (by rfl)
    refine ITri.skip ?_; simp only [SeqQ_normal, BlkQ_normal]
    refine ITri.reg pok ?_; simp -implicitDefEqProofs (disch := first | decide | exact of_eq_true (eq_true rfl) | omega | assumption) only [ ↓vcD, vcE, ↓vcG, vcF, evs, evP, evB, intsOf, fillC, Value.cells, pt, Value.oneCell', reduceIte, reduceCtorEq, Nat.reduceEqDiff, Nat.reduceAdd, Nat.reduceMul, Nat.reduceLT, Nat.reduceBEq, Nat.reduceLeDiff, Nat.reduceSub]
    exact LoopQ.next (k + 1) ⟨by omega, ov_miss ho h3⟩ (by omega) (Wk.sub ⟨rfl, rfl, rfl, rfl, trivial⟩)
  refine ITri.exit ?_; try simp -implicitDefEqProofs (disch := first | decide | exact of_eq_true (eq_true rfl) | omega | assumption) only [ ↓vcD, vcE, ↓vcG, vcF, evs, evP, evB, intsOf, fillC, Value.cells, pt, Value.oneCell', reduceIte, reduceCtorEq, Nat.reduceEqDiff, Nat.reduceAdd, Nat.reduceMul, Nat.reduceLT, Nat.reduceBEq, Nat.reduceLeDiff, Nat.reduceSub]
  obtain rfl : n = k := by omega
  rw [ho]
  refine ITri.seq ?_
  refine ITri.reg pok ?_; simp -implicitDefEqProofs (disch := first | decide | exact of_eq_true (eq_true rfl) | omega | assumption) only [ ↓vcD, vcE, ↓vcG, vcF, evs, evP, evB, intsOf, fillC, Value.cells, pt, Value.oneCell', reduceIte, reduceCtorEq, Nat.reduceEqDiff, Nat.reduceAdd, Nat.reduceMul, Nat.reduceLT, Nat.reduceBEq, Nat.reduceLeDiff, Nat.reduceSub]
  refine ITri.ret ?_; exact EndX.mk (by simp) (by rfl) (by rfl) (by rfl)
theorem containsER_x {wl ks c n sz g : Nat} {op : Bool} {cs caps : List Value} {el : Nat → List Value} (L : List (Option AObj)) (p : Nat → Bool) (hb : n ≤ 1000000) (hH : (L[ks]?).join = some (cO cs sz op)) (ht : ∀ k, k < n → takeC cs (k * 2) 2 = some (el k))
    (F : ∀ k, k < n → Fc Try.prog g (.agg ⟨el k⟩ :: caps) (Hp wl L) (.bool (p k)) (Hp wl L)) :
    Fc Try.prog 82 [slO ks n c, .func (.func g) ⟨[]⟩ ⟨caps⟩] (Hp wl L) (.bool (decide (0 ≤ ovI p n))) (Hp wl L) := by
  refine Fc.introX fn82 (by simp) (fun _ => Grow.refl _) ?_
  simp only [argF]
  refine ITri.seq ?_
  refine ITri.reg pok ?_; simp -implicitDefEqProofs (disch := first | decide | exact of_eq_true (eq_true rfl) | omega | assumption) only [ ↓vcD, vcE, ↓vcG, vcF, evs, evP, evB, intsOf, fillC, Value.cells, pt, Value.oneCell', reduceIte, reduceCtorEq, Nat.reduceEqDiff, Nat.reduceAdd, Nat.reduceMul, Nat.reduceLT, Nat.reduceBEq, Nat.reduceLeDiff, Nat.reduceSub] -- r0
  refine ITri.seq ?_
  refine ITri.reg pok ?_; simp -implicitDefEqProofs (disch := first | decide | exact of_eq_true (eq_true rfl) | omega | assumption) only [ ↓vcD, vcE, ↓vcG, vcF, evs, evP, evB, intsOf, fillC, Value.cells, pt, Value.oneCell', reduceIte, reduceCtorEq, Nat.reduceEqDiff, Nat.reduceAdd, Nat.reduceMul, Nat.reduceLT, Nat.reduceBEq, Nat.reduceLeDiff, Nat.reduceSub] -- r1
  refine ⟨_, _, indexER_x L p hb hH ht F, ?_⟩
  try simp -implicitDefEqProofs (disch := first | decide | exact of_eq_true (eq_true rfl) | omega | assumption) only [ ↓vcD, vcE, ↓vcG, vcF, evs, evP, evB, intsOf, fillC, Value.cells, pt, Value.oneCell', reduceIte, reduceCtorEq, Nat.reduceEqDiff, Nat.reduceAdd, Nat.reduceMul, Nat.reduceLT, Nat.reduceBEq, Nat.reduceLeDiff, Nat.reduceSub]
  refine ITri.ret ?_; exact EndX.mk (by simp) (by rfl) (by rfl) (by rfl)

theorem every1R_f {g kb : Nat} {caps el : List Value} {q : Bool} {L : List (Option AObj)} (hB : (L[kb]?).join = some (cO [.func (.func g) ⟨[]⟩ ⟨caps⟩] 1 false)) (hl : el.length = 2) (h1 : el.all Value.oneCell' = true)
    (F : ∀ T, Fc Try.prog g (.agg ⟨el⟩ :: caps) (Hp (L ++ T).length (L ++ T)) (.bool q) (Hp (L ++ T).length (L ++ T))) :
    Fc Try.prog 83 [.agg ⟨el⟩, pt kb] (Hp L.length L) (.bool (!q)) (Hp L.length L) := by
  have ht : takeC el 0 2 = some el := by rw [← hl]; exact takeC_0 _ _ rfl
  have hB' := fun T => join_app (T := T) hB
  refine Fc.intro0 fn83 (by simp) rfl rfl ?_; simp only [argF]
  refine ITri.seq ?_
  refine ITri.reg pok ?_; simp -implicitDefEqProofs (disch := first | decide | exact of_eq_true (eq_true rfl) | omega | assumption) only [h1,  ↓vcD, vcE, ↓vcG, vcF, evs, evP, evB, intsOf, fillC, Value.cells, pt, Value.oneCell', reduceIte, reduceCtorEq, Nat.reduceEqDiff, Nat.reduceAdd, Nat.reduceMul, Nat.reduceLT, Nat.reduceBEq, Nat.reduceLeDiff, Nat.reduceSub] -- r0
  refine ITri.seq ?_
  refine ITri.reg pok ?_; simp -implicitDefEqProofs (disch := first | decide | exact of_eq_true (eq_true rfl) | omega | assumption) only [apd_get, apd_get0, apd_set0, apd_set, List.length_append, List.append_assoc, Nat.add_assoc, hB', ht,  ↓vcD, vcE, ↓vcG, vcF, evs, evP, evB, intsOf, fillC, Value.cells, pt, Value.oneCell', reduceIte, reduceCtorEq, Nat.reduceEqDiff, Nat.reduceAdd, Nat.reduceMul, Nat.reduceLT, Nat.reduceBEq, Nat.reduceLeDiff, Nat.reduceSub] -- r1
  refine ⟨_, _, Fc.relax (by simp) (F [some (cO el 1 false)]), ?_⟩
  try simp -implicitDefEqProofs (disch := first | decide | exact of_eq_true (eq_true rfl) | omega | assumption) only [ ↓vcD, vcE, ↓vcG, vcF, evs, evP, evB, intsOf, fillC, Value.cells, pt, Value.oneCell', reduceIte, reduceCtorEq, Nat.reduceEqDiff, Nat.reduceAdd, Nat.reduceMul, Nat.reduceLT, Nat.reduceBEq, Nat.reduceLeDiff, Nat.reduceSub]
  refine ITri.ret ?_; exact EndR.plain (by simp) (by rfl) (by rfl) (by rfl)
theorem everyR_f {ks c n sz g : Nat} {op : Bool} {cs caps : List Value} {el : Nat → List Value} (L : List (Option AObj)) (q : Nat → Bool) (hb : n ≤ 1000000) (hH : (L[ks]?).join = some (cO cs sz op)) (ht : ∀ k, k < n → takeC cs (k * 2) 2 = some (el k))
    (hl : ∀ k, k < n → (el k).length = 2) (h1 : ∀ k, k < n → (el k).all Value.oneCell' = true) (F : ∀ k, k < n → ∀ T, Fc Try.prog g (.agg ⟨el k⟩ :: caps) (Hp (L ++ T).length (L ++ T)) (.bool (q k)) (Hp (L ++ T).length (L ++ T))) :
    Fc Try.prog 34 [slO ks n c, .func (.func g) ⟨[]⟩ ⟨caps⟩] (Hp L.length L) (.bool (!decide (0 ≤ ovI (fun k => !q k) n))) (Hp L.length L) := by
  refine Fc.intro0 fn34 (by simp) rfl rfl ?_; simp only [argF]
  refine ITri.seq ?_
  refine ITri.reg pok ?_; simp -implicitDefEqProofs (disch := first | decide | exact of_eq_true (eq_true rfl) | omega | assumption) only [ ↓vcD, vcE, ↓vcG, vcF, evs, evP, evB, intsOf, fillC, Value.cells, pt, Value.oneCell', reduceIte, reduceCtorEq, Nat.reduceEqDiff, Nat.reduceAdd, Nat.reduceMul, Nat.reduceLT, Nat.reduceBEq, Nat.reduceLeDiff, Nat.reduceSub] -- r0
  refine ITri.seq ?_
  refine ITri.reg pok ?_; simp -implicitDefEqProofs (disch := first | decide | exact of_eq_true (eq_true rfl) | omega | assumption) only [apd_get, apd_get0, apd_set0, apd_set, List.length_append, List.append_assoc, Nat.add_assoc,  ↓vcD, vcE, ↓vcG, vcF, evs, evP, evB, intsOf, fillC, Value.cells, pt, Value.oneCell', reduceIte, reduceCtorEq, Nat.reduceEqDiff, Nat.reduceAdd, Nat.reduceMul, Nat.reduceLT, Nat.reduceBEq, Nat.reduceLeDiff, Nat.reduceSub] -- r1
  refine ⟨_, _, containsER_x (L ++ [some (cO [.func (.func g) ⟨[]⟩ ⟨caps⟩] 1 false)]) (fun k => !q k) hb (join_app hH) ht (fun k hk => Fc.relax (by simp) (every1R_f (by rw [List.getElem?_append_right (Nat.le_refl _), Nat.sub_self]; rfl) (hl k hk) (h1 k hk) (fun T => by rw [List.append_assoc]; exact F k hk _))), ?_⟩
  try simp -implicitDefEqProofs (disch := first | decide | exact of_eq_true (eq_true rfl) | omega | assumption) only [ ↓vcD, vcE, ↓vcG, vcF, evs, evP, evB, intsOf, fillC, Value.cells, pt, Value.oneCell', reduceIte, reduceCtorEq, Nat.reduceEqDiff, Nat.reduceAdd, Nat.reduceMul, Nat.reduceLT, Nat.reduceBEq, Nat.reduceLeDiff, Nat.reduceSub]
  refine ITri.ret ?_; exact EndR.plain (by simp) (by rfl) (by rfl) (by rfl)

/- slices.IndexFunc[[]boule/api.ShopTool,boule/api.ShopTool] · slots 19 · names 0:s 1:f 2:s 3:f 5:i · results [4] -/
def ir105_r0 : IC := .reg [⟨some 4, none, false, .mv (.k (.int .i64 0))⟩] (some [0, 1])
def ir105_r1 : IC := .reg [⟨some 6, none, false, .mv (.t 0)⟩,
  ⟨some 7, none, false, .len (.t 6)⟩,
  ⟨some 8, none, false, .mv (.k (.int .i64 0))⟩] (some [0, 1, 7, 8])
def ir105_r2 : IC := .reg [⟨some 9, none, false, .cmp .lss (.t 8) (.t 7)⟩] (some [0, 1, 7, 8, 9])
def ir105_1 : IC := .cond (.t 9) .skip (.exit 0)
def ir105_r3 : IC := .reg [⟨some 10, none, false, .mv (.t 8)⟩,
  ⟨some 5, none, false, .mv (.t 10)⟩] (some [0, 1, 5, 7, 8])
def ir105_r4 : IC := .reg [⟨some 11, none, false, .mv (.t 1)⟩,
  ⟨some 12, none, false, .mv (.t 0)⟩,
  ⟨some 13, none, false, .mv (.t 5)⟩,
  ⟨some 14, none, false, .iad 5 (.t 12) (.t 13)⟩,
  ⟨some 15, none, false, .lda 5 (.t 14)⟩,
  ⟨some 16, none, false, .call (.t 11) [(.t 15)]⟩] (some [0, 1, 5, 7, 8, 16])
def ir105_r5 : IC := .reg [⟨some 17, none, false, .mv (.t 5)⟩,
  ⟨some 4, none, false, .mv (.t 17)⟩] (some [4])
def ir105_2 : IC := .seq ir105_r5 .ret
def ir105_3 : IC := .cond (.t 16) ir105_2 .skip
def ir105_4 : IC := .seq ir105_r4 ir105_3
def ir105_5 : IC := .seq ir105_r3 ir105_4
def ir105_6 : IC := .block 1 ir105_5
def ir105_r6 : IC := .reg [⟨some 18, none, false, .ar .add (.t 8) (.k (.int .i64 1))⟩,
  ⟨some 8, none, false, .mv (.t 18)⟩] (some [0, 1, 7, 8])
def ir105_7 : IC := .seq ir105_6 ir105_r6
def ir105_8 : IC := .seq ir105_1 ir105_7
def ir105_9 : IC := .seq ir105_r2 ir105_8
def ir105_10 : IC := .loop ir105_9
def ir105_11 : IC := .block 0 ir105_10
def ir105_12 : IC := .seq ir105_r1 ir105_11
def ir105_r7 : IC := .reg [⟨some 4, none, false, .mv (.k (.int .i64 (-1)))⟩] (some [4])
def ir105_13 : IC := .seq ir105_r7 .ret
def ir105_14 : IC := .seq ir105_12 ir105_13
def ir105_15 : IC := .seq ir105_r0 ir105_14
def ir105 : IC := ir105_15
theorem fn105 : FnIs Try.prog 105 ir105 19 [.tmp 4] := ⟨Try.f105, Try.f105.body.getD .skip, Try.func105, by kernel_rfl, by kernel_rfl, by kernel_rfl, by kernel_rfl⟩
/- slices.ContainsFunc[[]boule/api.ShopTool,boule/api.ShopTool] · slots 9 · names 0:s 1:f 2:s 3:f · results [4] -/
def ir84_r0 : IC := .reg [⟨some 4, none, false, .mv (.k (.bool false))⟩] (some [0, 1])
def ir84_r1 : IC := .reg [⟨some 5, none, false, .mv (.t 0)⟩,
  ⟨some 6, none, false, .mv (.t 1)⟩,
  ⟨some 7, none, false, .call (.f 105) [(.t 5), (.t 6)]⟩,
  ⟨some 8, none, false, .cmp .geq (.t 7) (.k (.int .i64 0))⟩,
  ⟨some 4, none, false, .mv (.t 8)⟩] (some [4])
def ir84_1 : IC := .seq ir84_r1 .ret
def ir84_2 : IC := .seq ir84_r0 ir84_1
def ir84 : IC := ir84_2
theorem fn84 : FnIs Try.prog 84 ir84 9 [.tmp 4] := ⟨Try.f84, Try.f84.body.getD .skip, Try.func84, by kernel_rfl, by kernel_rfl, by kernel_rfl, by kernel_rfl⟩
/- boule/shop.every[boule/api.ShopTool]$1 · slots 8 · names 0:x 2:x · results [3] -/
def ir85_r0 : IC := .reg [⟨some 2, none, false, .box (.t 0)⟩,
  ⟨some 3, none, false, .mv (.k (.bool false))⟩] (some [1, 2])
def ir85_r1 : IC := .reg [⟨some 4, none, false, .ldc (.t 1)⟩,
  ⟨some 5, none, false, .lda 5 (.t 2)⟩,
  ⟨some 6, none, false, .call (.t 4) [(.t 5)]⟩,
  ⟨some 7, none, false, .not (.t 6)⟩,
  ⟨some 3, none, false, .mv (.t 7)⟩] (some [3])
def ir85_1 : IC := .seq ir85_r1 .ret
def ir85_2 : IC := .seq ir85_r0 ir85_1
def ir85 : IC := ir85_2
theorem fn85 : FnIs Try.prog 85 ir85 8 [.tmp 3] := ⟨Try.f85, Try.f85.body.getD .skip, Try.func85, by kernel_rfl, by kernel_rfl, by kernel_rfl, by kernel_rfl⟩
/- boule/shop.every[boule/api.ShopTool] · slots 9 · names 0:l 1:is 2:l 3:is · results [4] -/
def ir35_r0 : IC := .reg [⟨some 3, none, false, .box (.t 1)⟩,
  ⟨some 4, none, false, .mv (.k (.bool false))⟩] (some [0, 3])
def ir35_r1 : IC := .reg [⟨some 5, none, false, .mv (.t 0)⟩,
  ⟨some 6, none, false, .mkf 85 [] [(.t 3)]⟩,
  ⟨some 7, none, false, .call (.f 84) [(.t 5), (.t 6)]⟩,
  ⟨some 8, none, false, .not (.t 7)⟩,
  ⟨some 4, none, false, .mv (.t 8)⟩] (some [4])
def ir35_1 : IC := .seq ir35_r1 .ret
def ir35_2 : IC := .seq ir35_r0 ir35_1
def ir35 : IC := ir35_2
theorem fn35 : FnIs Try.prog 35 ir35 9 [.tmp 4] := ⟨Try.f35, Try.f35.body.getD .skip, Try.func35, by kernel_rfl, by kernel_rfl, by kernel_rfl, by kernel_rfl⟩
theorem indexET_x {wl ks c n sz g : Nat} {op : Bool} {cs caps : List Value} {el : Nat → List Value} (L : List (Option AObj)) (p : Nat → Bool) (hb : n ≤ 1000000) (hH : (L[ks]?).join = some (cO cs sz op)) (ht : ∀ k, k < n → takeC cs (k * 5) 5 = some (el k))
    (F : ∀ k, k < n → Fc Try.prog g (.agg ⟨el k⟩ :: caps) (Hp wl L) (.bool (p k)) (Hp wl L)) :
    Fc Try.prog 105 [slO ks n c, .func (.func g) ⟨[]⟩ ⟨caps⟩] (Hp wl L) (.int .i64 (ovI p n)) (Hp wl L) := by
  refine Fc.introX fn105 (by simp) (fun _ => Grow.refl _) ?_
  simp only [argF]
  refine ITri.seq ?_
  refine ITri.reg pok ?_; simp -implicitDefEqProofs (disch := first | decide | exact of_eq_true (eq_true rfl) | omega | assumption) only [ ↓vcD, vcE, ↓vcG, vcF, evs, evP, evB, intsOf, fillC, Value.cells, pt, Value.oneCell', reduceIte, reduceCtorEq, Nat.reduceEqDiff, Nat.reduceAdd, Nat.reduceMul, Nat.reduceLT, Nat.reduceBEq, Nat.reduceLeDiff, Nat.reduceSub] -- r0
  refine ITri.seq ?_
  refine ITri.seq ?_
  refine ITri.reg pok ?_; simp -implicitDefEqProofs (disch := first | decide | exact of_eq_true (eq_true rfl) | omega | assumption) only [ ↓vcD, vcE, ↓vcG, vcF, evs, evP, evB, intsOf, fillC, Value.cells, pt, Value.oneCell', reduceIte, reduceCtorEq, Nat.reduceEqDiff, Nat.reduceAdd, Nat.reduceMul, Nat.reduceLT, Nat.reduceBEq, Nat.reduceLeDiff, Nat.reduceSub] -- r1
  refine ITri.block ?_
  refine ITri.loop (fun k : Nat => [(0, slO ks n c), (1, .func (.func g) ⟨[]⟩ ⟨caps⟩), (7, .int .i64 n), (8, .int .i64 k)]) (fun _ => []) (fun k => Hp wl L) (fun k => k ≤ n ∧ ovI p k = -1) (fun k => n - k) 0 ⟨Nat.zero_le _, rfl⟩ (Wk.sub ⟨rfl, rfl, rfl, rfl, trivial⟩) (fun k hk => ?_)
  obtain ⟨hk, ho⟩ := hk
  refine ITri.seq ?_
  refine ITri.reg pok ?_; simp -implicitDefEqProofs (disch := first | decide | exact of_eq_true (eq_true rfl) | omega | assumption) only [ ↓vcD, vcE, ↓vcG, vcF, evs, evP, evB, intsOf, fillC, Value.cells, pt, Value.oneCell', reduceIte, reduceCtorEq, Nat.reduceEqDiff, Nat.reduceAdd, Nat.reduceMul, Nat.reduceLT, Nat.reduceBEq, Nat.reduceLeDiff, Nat.reduceSub]
  refine ITri.seq ?_
  refine ITri.condD (by rfl) (fun h1 => ?_) (fun h1 => ?_)
  · have h2 : k < n := by omega
    have hg : takeC cs (k * 5) 5 = some (el k) := ht k h2
    refine ITri.skip ?_; simp only [SeqQ_normal, BlkQ_normal]
    refine ITri.seq ?_
    refine ITri.block ?_
    refine ITri.seq ?_
    refine ITri.reg pok ?_; simp -implicitDefEqProofs (disch := first | decide | exact of_eq_true (eq_true rfl) | omega | assumption) only [ ↓vcD, vcE, ↓vcG, vcF, evs, evP, evB, intsOf, fillC, Value.cells, pt, Value.oneCell', reduceIte, reduceCtorEq, Nat.reduceEqDiff, Nat.reduceAdd, Nat.reduceMul, Nat.reduceLT, Nat.reduceBEq, Nat.reduceLeDiff, Nat.reduceSub]
    refine ITri.seq ?_
    refine ITri.reg pok ?_; simp -implicitDefEqProofs (disch := first | decide | exact of_eq_true (eq_true rfl) | omega | assumption) only [hH, hg,  ↓vcD, vcE, ↓vcG, vcF, evs, evP, evB, intsOf, fillC, Value.cells, pt, Value.oneCell', reduceIte, reduceCtorEq, Nat.reduceEqDiff, Nat.reduceAdd, Nat.reduceMul, Nat.reduceLT, Nat.reduceBEq, Nat.reduceLeDiff, Nat.reduceSub]
    refine ⟨_, _, F k h2, ?_⟩
    try simp -implicitDefEqProofs (disch := first | decide | exact of_eq_true (eq_true rfl) | omega | assumption) only [ ↓vcD, vcE, ↓vcG, vcF, evs, evP, evB, intsOf, fillC, Value.cells, pt, Value.oneCell', reduceIte, reduceCtorEq, Nat.reduceEqDiff, Nat.reduceAdd, Nat.reduceMul, Nat.reduceLT, Nat.reduceBEq, Nat.reduceLeDiff, Nat.reduceSub]
    refine ITri.cond (by rfl) (fun h3 => ?_) (fun h3 => ?_)
    · have h4 := ov_hit ho h3 h2
      rw [h4]
      refine ITri.seq ?_
      refine ITri.reg pok ?_; simp -implicitDefEqProofs (disch := first | decide | exact of_eq_true (eq_true rfl) | omega | assumption) only [ ↓vcD, vcE, ↓vcG, vcF, evs, evP, evB, intsOf, fillC, Value.cells, pt, Value.oneCell', reduceIte, reduceCtorEq, Nat.reduceEqDiff, Nat.reduceAdd, Nat.reduceMul, Nat.reduceLT, Nat.reduceBEq, Nat.reduceLeDiff, Nat.reduceSub]
      refine ITri.ret ?_; exact EndX.mk (by simp) (by rfl) (by rfl) (by rfl)
    refine ITri.skip ?_; simp only [SeqQ_normal, BlkQ_normal]
    refine ITri.reg pok ?_; simp -implicitDefEqProofs (disch := first | decide | exact of_eq_true (eq_true rfl) | omega | assumption) only [ ↓vcD, vcE, ↓vcG, vcF, evs, evP, evB, intsOf, fillC, Value.cells, pt, Value.oneCell', reduceIte, reduceCtorEq, Nat.reduceEqDiff, Nat.reduceAdd, Nat.reduceMul, Nat.reduceLT, Nat.reduceBEq, Nat.reduceLeDiff, Nat.reduceSub]
    exact LoopQ.next (k + 1) ⟨by omega, ov_miss ho h3⟩ (by omega) (Wk.sub ⟨rfl, rfl, rfl, rfl, trivial⟩)
  refine ITri.exit ?_; try simp -implicitDefEqProofs (disch := first | decide | exact of_eq_true (eq_true rfl) | omega | assumption) only [ ↓vcD, vcE, ↓vcG, vcF, evs, evP, evB, intsOf, fillC, Value.cells, pt, Value.oneCell', reduceIte, reduceCtorEq, Nat.reduceEqDiff, Nat.reduceAdd, Nat.reduceMul, Nat.reduceLT, Nat.reduceBEq, Nat.reduceLeDiff, Nat.reduceSub]
  obtain rfl : n = k := by omega
  rw [ho]
  refine ITri.seq ?_
  refine ITri.reg pok ?_; simp -implicitDefEqProofs (disch := first | decide | exact of_eq_true (eq_true rfl) | omega | assumption) only [ ↓vcD, vcE, ↓vcG, vcF, evs, evP, evB, intsOf, fillC, Value.cells, pt, Value.oneCell', reduceIte, reduceCtorEq, Nat.reduceEqDiff, Nat.reduceAdd, Nat.reduceMul, Nat.reduceLT, Nat.reduceBEq, Nat.reduceLeDiff, Nat.reduceSub]
  refine ITri.ret ?_; exact EndX.mk (by simp) (by rfl) (by rfl) (by rfl)
theorem containsET_x {wl ks c n sz g : Nat} {op : Bool} {cs caps : List Value} {el : Nat → List Value} (L : List (Option AObj)) (p : Nat → Bool) (hb : n ≤ 1000000) (hH : (L[ks]?).join = some (cO cs sz op)) (ht : ∀ k, k < n → takeC cs (k * 5) 5 = some (el k))
    (F : ∀ k, k < n → Fc Try.prog g (.agg ⟨el k⟩ :: caps) (Hp wl L) (.bool (p k)) (Hp wl L)) :
    Fc Try.prog 84 [slO ks n c, .func (.func g) ⟨[]⟩ ⟨caps⟩] (Hp wl L) (.bool (decide (0 ≤ ovI p n))) (Hp wl L) := by
  refine Fc.introX fn84 (by simp) (fun _ => Grow.refl _) ?_
  simp only [argF]
  refine ITri.seq ?_
  refine ITri.reg pok ?_; simp -implicitDefEqProofs (disch := first | decide | exact of_eq_true (eq_true rfl) | omega | assumption) only [ ↓vcD, vcE, ↓vcG, vcF, evs, evP, evB, intsOf, fillC, Value.cells, pt, Value.oneCell', reduceIte, reduceCtorEq, Nat.reduceEqDiff, Nat.reduceAdd, Nat.reduceMul, Nat.reduceLT, Nat.reduceBEq, Nat.reduceLeDiff, Nat.reduceSub] -- r0
  refine ITri.seq ?_
  refine ITri.reg pok ?_; simp -implicitDefEqProofs (disch := first | decide | exact of_eq_true (eq_true rfl) | omega | assumption) only [ ↓vcD, vcE, ↓vcG, vcF, evs, evP, evB, intsOf, fillC, Value.cells, pt, Value.oneCell', reduceIte, reduceCtorEq, Nat.reduceEqDiff, Nat.reduceAdd, Nat.reduceMul, Nat.reduceLT, Nat.reduceBEq, Nat.reduceLeDiff, Nat.reduceSub] -- r1
  refine ⟨_, _, indexET_x L p hb hH ht F, ?_⟩
  try simp -implicitDefEqProofs (disch := first | decide | exact of_eq_true (eq_true rfl) | omega | assumption) only [ ↓vcD, vcE, ↓vcG, vcF, evs, evP, evB, intsOf, fillC, Value.cells, pt, Value.oneCell', reduceIte, reduceCtorEq, Nat.reduceEqDiff, Nat.reduceAdd, Nat.reduceMul, Nat.reduceLT, Nat.reduceBEq, Nat.reduceLeDiff, Nat.reduceSub]
  refine ITri.ret ?_; exact EndX.mk (by simp) (by rfl) (by rfl) (by rfl)

theorem every1T_f {g kb : Nat} {caps el : List Value} {q : Bool} {L : List (Option AObj)} (hB : (L[kb]?).join = some (cO [.func (.func g) ⟨[]⟩ ⟨caps⟩] 1 false)) (hl : el.length = 5) (h1 : el.all Value.oneCell' = true)
    (F : ∀ T, Fc Try.prog g (.agg ⟨el⟩ :: caps) (Hp (L ++ T).length (L ++ T)) (.bool q) (Hp (L ++ T).length (L ++ T))) :
    Fc Try.prog 85 [.agg ⟨el⟩, pt kb] (Hp L.length L) (.bool (!q)) (Hp L.length L) := by
  have ht : takeC el 0 5 = some el := by rw [← hl]; exact takeC_0 _ _ rfl
  have hB' := fun T => join_app (T := T) hB
  refine Fc.intro0 fn85 (by simp) rfl rfl ?_; simp only [argF]
  refine ITri.seq ?_
  refine ITri.reg pok ?_; simp -implicitDefEqProofs (disch := first | decide | exact of_eq_true (eq_true rfl) | omega | assumption) only [h1,  ↓vcD, vcE, ↓vcG, vcF, evs, evP, evB, intsOf, fillC, Value.cells, pt, Value.oneCell', reduceIte, reduceCtorEq, Nat.reduceEqDiff, Nat.reduceAdd, Nat.reduceMul, Nat.reduceLT, Nat.reduceBEq, Nat.reduceLeDiff, Nat.reduceSub] -- r0
  refine ITri.seq ?_
  refine ITri.reg pok ?_; simp -implicitDefEqProofs (disch := first | decide | exact of_eq_true (eq_true rfl) | omega | assumption) only [apd_get, apd_get0, apd_set0, apd_set, List.length_append, List.append_assoc, Nat.add_assoc, hB', ht,  ↓vcD, vcE, ↓vcG, vcF, evs, evP, evB, intsOf, fillC, Value.cells, pt, Value.oneCell', reduceIte, reduceCtorEq, Nat.reduceEqDiff, Nat.reduceAdd, Nat.reduceMul, Nat.reduceLT, Nat.reduceBEq, Nat.reduceLeDiff, Nat.reduceSub] -- r1
  refine ⟨_, _, Fc.relax (by simp) (F [some (cO el 1 false)]), ?_⟩
  try simp -implicitDefEqProofs (disch := first | decide | exact of_eq_true (eq_true rfl) | omega | assumption) only [ ↓vcD, vcE, ↓vcG, vcF, evs, evP, evB, intsOf, fillC, Value.cells, pt, Value.oneCell', reduceIte, reduceCtorEq, Nat.reduceEqDiff, Nat.reduceAdd, Nat.reduceMul, Nat.reduceLT, Nat.reduceBEq, Nat.reduceLeDiff, Nat.reduceSub]
  refine ITri.ret ?_; exact EndR.plain (by simp) (by rfl) (by rfl) (by rfl)
theorem everyT_f {ks c n sz g : Nat} {op : Bool} {cs caps : List Value} {el : Nat → List Value} (L : List (Option AObj)) (q : Nat → Bool) (hb : n ≤ 1000000) (hH : (L[ks]?).join = some (cO cs sz op)) (ht : ∀ k, k < n → takeC cs (k * 5) 5 = some (el k))
    (hl : ∀ k, k < n → (el k).length = 5) (h1 : ∀ k, k < n → (el k).all Value.oneCell' = true) (F : ∀ k, k < n → ∀ T, Fc Try.prog g (.agg ⟨el k⟩ :: caps) (Hp (L ++ T).length (L ++ T)) (.bool (q k)) (Hp (L ++ T).length (L ++ T))) :
    Fc Try.prog 35 [slO ks n c, .func (.func g) ⟨[]⟩ ⟨caps⟩] (Hp L.length L) (.bool (!decide (0 ≤ ovI (fun k => !q k) n))) (Hp L.length L) := by
  refine Fc.intro0 fn35 (by simp) rfl rfl ?_; simp only [argF]
  refine ITri.seq ?_
  refine ITri.reg pok ?_; simp -implicitDefEqProofs (disch := first | decide | exact of_eq_true (eq_true rfl) | omega | assumption) only [ ↓vcD, vcE, ↓vcG, vcF, evs, evP, evB, intsOf, fillC, Value.cells, pt, Value.oneCell', reduceIte, reduceCtorEq, Nat.reduceEqDiff, Nat.reduceAdd, Nat.reduceMul, Nat.reduceLT, Nat.reduceBEq, Nat.reduceLeDiff, Nat.reduceSub] -- r0
  refine ITri.seq ?_
  refine ITri.reg pok ?_; simp -implicitDefEqProofs (disch := first | decide | exact of_eq_true (eq_true rfl) | omega | assumption) only [apd_get, apd_get0, apd_set0, apd_set, List.length_append, List.append_assoc, Nat.add_assoc,  ↓vcD, vcE, ↓vcG, vcF, evs, evP, evB, intsOf, fillC, Value.cells, pt, Value.oneCell', reduceIte, reduceCtorEq, Nat.reduceEqDiff, Nat.reduceAdd, Nat.reduceMul, Nat.reduceLT, Nat.reduceBEq, Nat.reduceLeDiff, Nat.reduceSub] -- r1
  refine ⟨_, _, containsET_x (L ++ [some (cO [.func (.func g) ⟨[]⟩ ⟨caps⟩] 1 false)]) (fun k => !q k) hb (join_app hH) ht (fun k hk => Fc.relax (by simp) (every1T_f (by rw [List.getElem?_append_right (Nat.le_refl _), Nat.sub_self]; rfl) (hl k hk) (h1 k hk) (fun T => by rw [List.append_assoc]; exact F k hk _))), ?_⟩
  try simp -implicitDefEqProofs (disch := first | decide | exact of_eq_true (eq_true rfl) | omega | assumption) only [ ↓vcD, vcE, ↓vcG, vcF, evs, evP, evB, intsOf, fillC, Value.cells, pt, Value.oneCell', reduceIte, reduceCtorEq, Nat.reduceEqDiff, Nat.reduceAdd, Nat.reduceMul, Nat.reduceLT, Nat.reduceBEq, Nat.reduceLeDiff, Nat.reduceSub]
  refine ITri.ret ?_; exact EndR.plain (by simp) (by rfl) (by rfl) (by rfl)

/- slices.IndexFunc[[]boule/api.RouteStep,boule/api.RouteStep] · slots 19 · names 0:s 1:f 2:s 3:f 5:i · results [4] -/
def ir106_r0 : IC := .reg [⟨some 4, none, false, .mv (.k (.int .i64 0))⟩] (some [0, 1])
def ir106_r1 : IC := .reg [⟨some 6, none, false, .mv (.t 0)⟩,
  ⟨some 7, none, false, .len (.t 6)⟩,
  ⟨some 8, none, false, .mv (.k (.int .i64 0))⟩] (some [0, 1, 7, 8])
def ir106_r2 : IC := .reg [⟨some 9, none, false, .cmp .lss (.t 8) (.t 7)⟩] (some [0, 1, 7, 8, 9])
def ir106_1 : IC := .cond (.t 9) .skip (.exit 0)
def ir106_r3 : IC := .reg [⟨some 10, none, false, .mv (.t 8)⟩,
  ⟨some 5, none, false, .mv (.t 10)⟩] (some [0, 1, 5, 7, 8])
def ir106_r4 : IC := .reg [⟨some 11, none, false, .mv (.t 1)⟩,
  ⟨some 12, none, false, .mv (.t 0)⟩,
  ⟨some 13, none, false, .mv (.t 5)⟩,
  ⟨some 14, none, false, .iad 2 (.t 12) (.t 13)⟩,
  ⟨some 15, none, false, .lda 2 (.t 14)⟩,
  ⟨some 16, none, false, .call (.t 11) [(.t 15)]⟩] (some [0, 1, 5, 7, 8, 16])
def ir106_r5 : IC := .reg [⟨some 17, none, false, .mv (.t 5)⟩,
  ⟨some 4, none, false, .mv (.t 17)⟩] (some [4])
def ir106_2 : IC := .seq ir106_r5 .ret
def ir106_3 : IC := .cond (.t 16) ir106_2 .skip
def ir106_4 : IC := .seq ir106_r4 ir106_3
def ir106_5 : IC := .seq ir106_r3 ir106_4
def ir106_6 : IC := .block 1 ir106_5
def ir106_r6 : IC := .reg [⟨some 18, none, false, .ar .add (.t 8) (.k (.int .i64 1))⟩,
  ⟨some 8, none, false, .mv (.t 18)⟩] (some [0, 1, 7, 8])
def ir106_7 : IC := .seq ir106_6 ir106_r6
def ir106_8 : IC := .seq ir106_1 ir106_7
def ir106_9 : IC := .seq ir106_r2 ir106_8
def ir106_10 : IC := .loop ir106_9
def ir106_11 : IC := .block 0 ir106_10
def ir106_12 : IC := .seq ir106_r1 ir106_11
def ir106_r7 : IC := .reg [⟨some 4, none, false, .mv (.k (.int .i64 (-1)))⟩] (some [4])
def ir106_13 : IC := .seq ir106_r7 .ret
def ir106_14 : IC := .seq ir106_12 ir106_13
def ir106_15 : IC := .seq ir106_r0 ir106_14
def ir106 : IC := ir106_15
theorem fn106 : FnIs Try.prog 106 ir106 19 [.tmp 4] := ⟨Try.f106, Try.f106.body.getD .skip, Try.func106, by kernel_rfl, by kernel_rfl, by kernel_rfl, by kernel_rfl⟩
/- slices.ContainsFunc[[]boule/api.RouteStep,boule/api.RouteStep] · slots 9 · names 0:s 1:f 2:s 3:f · results [4] -/
def ir86_r0 : IC := .reg [⟨some 4, none, false, .mv (.k (.bool false))⟩] (some [0, 1])
def ir86_r1 : IC := .reg [⟨some 5, none, false, .mv (.t 0)⟩,
  ⟨some 6, none, false, .mv (.t 1)⟩,
  ⟨some 7, none, false, .call (.f 106) [(.t 5), (.t 6)]⟩,
  ⟨some 8, none, false, .cmp .geq (.t 7) (.k (.int .i64 0))⟩,
  ⟨some 4, none, false, .mv (.t 8)⟩] (some [4])
def ir86_1 : IC := .seq ir86_r1 .ret
def ir86_2 : IC := .seq ir86_r0 ir86_1
def ir86 : IC := ir86_2
theorem fn86 : FnIs Try.prog 86 ir86 9 [.tmp 4] := ⟨Try.f86, Try.f86.body.getD .skip, Try.func86, by kernel_rfl, by kernel_rfl, by kernel_rfl, by kernel_rfl⟩
/- boule/shop.every[boule/api.RouteStep]$1 · slots 8 · names 0:x 2:x · results [3] -/
def ir87_r0 : IC := .reg [⟨some 2, none, false, .box (.t 0)⟩,
  ⟨some 3, none, false, .mv (.k (.bool false))⟩] (some [1, 2])
def ir87_r1 : IC := .reg [⟨some 4, none, false, .ldc (.t 1)⟩,
  ⟨some 5, none, false, .lda 2 (.t 2)⟩,
  ⟨some 6, none, false, .call (.t 4) [(.t 5)]⟩,
  ⟨some 7, none, false, .not (.t 6)⟩,
  ⟨some 3, none, false, .mv (.t 7)⟩] (some [3])
def ir87_1 : IC := .seq ir87_r1 .ret
def ir87_2 : IC := .seq ir87_r0 ir87_1
def ir87 : IC := ir87_2
theorem fn87 : FnIs Try.prog 87 ir87 8 [.tmp 3] := ⟨Try.f87, Try.f87.body.getD .skip, Try.func87, by kernel_rfl, by kernel_rfl, by kernel_rfl, by kernel_rfl⟩
/- boule/shop.every[boule/api.RouteStep] · slots 9 · names 0:l 1:is 2:l 3:is · results [4] -/
def ir36_r0 : IC := .reg [⟨some 3, none, false, .box (.t 1)⟩,
  ⟨some 4, none, false, .mv (.k (.bool false))⟩] (some [0, 3])
def ir36_r1 : IC := .reg [⟨some 5, none, false, .mv (.t 0)⟩,
  ⟨some 6, none, false, .mkf 87 [] [(.t 3)]⟩,
  ⟨some 7, none, false, .call (.f 86) [(.t 5), (.t 6)]⟩,
  ⟨some 8, none, false, .not (.t 7)⟩,
  ⟨some 4, none, false, .mv (.t 8)⟩] (some [4])
def ir36_1 : IC := .seq ir36_r1 .ret
def ir36_2 : IC := .seq ir36_r0 ir36_1
def ir36 : IC := ir36_2
theorem fn36 : FnIs Try.prog 36 ir36 9 [.tmp 4] := ⟨Try.f36, Try.f36.body.getD .skip, Try.func36, by kernel_rfl, by kernel_rfl, by kernel_rfl, by kernel_rfl⟩
theorem indexEQ_x {wl ks c n sz g : Nat} {op : Bool} {cs caps : List Value} {el : Nat → List Value} (L : List (Option AObj)) (p : Nat → Bool) (hb : n ≤ 1000000) (hH : (L[ks]?).join = some (cO cs sz op)) (ht : ∀ k, k < n → takeC cs (k * 2) 2 = some (el k))
    (F : ∀ k, k < n → Fc Try.prog g (.agg ⟨el k⟩ :: caps) (Hp wl L) (.bool (p k)) (Hp wl L)) :
    Fc Try.prog 106 [slO ks n c, .func (.func g) ⟨[]⟩ ⟨caps⟩] (Hp wl L) (.int .i64 (ovI p n)) (Hp wl L) := by
  refine Fc.introX fn106 (by simp) (fun _ => Grow.refl _) ?_
  simp only [argF]
  refine ITri.seq ?_
  refine ITri.reg pok ?_; simp -implicitDefEqProofs (disch := first | decide | exact of_eq_true (eq_true rfl) | omega | assumption) only [ ↓vcD, vcE, ↓vcG, vcF, evs, evP, evB, intsOf, fillC, Value.cells, pt, Value.oneCell', reduceIte, reduceCtorEq, Nat.reduceEqDiff, Nat.reduceAdd, Nat.reduceMul, Nat.reduceLT, Nat.reduceBEq, Nat.reduceLeDiff, Nat.reduceSub] -- r0
  refine ITri.seq ?_
  refine ITri.seq ?_
  refine ITri.reg pok ?_; simp -implicitDefEqProofs (disch := first | decide | exact of_eq_true (eq_true rfl) | omega | assumption) only [ ↓vcD, vcE, ↓vcG, vcF, evs, evP, evB, intsOf, fillC, Value.cells, pt, Value.oneCell', reduceIte, reduceCtorEq, Nat.reduceEqDiff, Nat.reduceAdd, Nat.reduceMul, Nat.reduceLT, Nat.reduceBEq, Nat.reduceLeDiff, Nat.reduceSub] -- r1
  refine ITri.block ?_
  refine ITri.loop (fun k : Nat => [(0, slO ks n c), (1, .func (.func g) ⟨[]⟩ ⟨caps⟩), (7, .int .i64 n), (8, .int .i64 k)]) (fun _ => []) (fun k => Hp wl L) (fun k => k ≤ n ∧ ovI p k = -1) (fun k => n - k) 0 ⟨Nat.zero_le _, rfl⟩ (Wk.sub ⟨rfl, rfl, rfl, rfl, trivial⟩) (fun k hk => ?_)
  obtain ⟨hk, ho⟩ := hk
  refine ITri.seq ?_
  refine ITri.reg pok ?_; simp -implicitDefEqProofs (disch := first | decide | exact of_eq_true (eq_true rfl) | omega | assumption) only [ ↓vcD, vcE, ↓vcG, vcF, evs, evP, evB, intsOf, fillC, Value.cells, pt, Value.oneCell', reduceIte, reduceCtorEq, Nat.reduceEqDiff, Nat.reduceAdd, Nat.reduceMul, Nat.reduceLT, Nat.reduceBEq, Nat.reduceLeDiff, Nat.reduceSub]
  refine ITri.seq ?_
  refine ITri.condD (by rfl) (fun h1 => ?_) (fun h1 => ?_)
  · have h2 : k < n := by omega
    have hg : takeC cs (k * 2) 2 = some (el k) := ht k h2
    refine ITri.skip ?_; simp only [SeqQ_normal, BlkQ_normal]
    refine ITri.seq ?_
    refine ITri.block ?_
    refine ITri.seq ?_
    refine ITri.reg pok ?_; simp -implicitDefEqProofs (disch := first | decide | exact of_eq_true (eq_true rfl) | omega | assumption) only [ ↓vcD, vcE, ↓vcG, vcF, evs, evP, evB, intsOf, fillC, Value.cells, pt, Value.oneCell', reduceIte, reduceCtorEq, Nat.reduceEqDiff, Nat.reduceAdd, Nat.reduceMul, Nat.reduceLT, Nat.reduceBEq, Nat.reduceLeDiff, Nat.reduceSub]
    refine ITri.seq ?_
    refine ITri.reg pok ?_; simp -implicitDefEqProofs (disch := first | decide | exact of_eq_true (eq_true rfl) | omega | assumption) only [hH, hg,  ↓vcD, vcE, ↓vcG, vcF, evs, evP, evB, intsOf, fillC, Value.cells, pt, Value.oneCell', reduceIte, reduceCtorEq, Nat.reduceEqDiff, Nat.reduceAdd, Nat.reduceMul, Nat.reduceLT, Nat.reduceBEq, Nat.reduceLeDiff, Nat.reduceSub]
    refine ⟨_, _, F k h2, ?_⟩
    try simp -implicitDefEqProofs (disch := first | decide | exact of_eq_true (eq_true rfl) | omega | assumption) only [ ↓vcD, vcE, ↓vcG, vcF, evs, evP, evB, intsOf, fillC, Value.cells, pt, Value.oneCell', reduceIte, reduceCtorEq, Nat.reduceEqDiff, Nat.reduceAdd, Nat.reduceMul, Nat.reduceLT, Nat.reduceBEq, Nat.reduceLeDiff, Nat.reduceSub]
    refine ITri.cond (by rfl) (fun h3 => ?_) (fun h3 => ?_)
    · have h4 := ov_hit ho h3 h2
      rw [h4]
      refine ITri.seq ?_
      refine ITri.reg pok ?_; simp -implicitDefEqProofs (disch := first | decide | exact of_eq_true (eq_true rfl) | omega | assumption) only [ ↓vcD, vcE, ↓vcG, vcF, evs, evP, evB, intsOf, fillC, Value.cells, pt, Value.oneCell', reduceIte, reduceCtorEq, Nat.reduceEqDiff, Nat.reduceAdd, Nat.reduceMul, Nat.reduceLT, Nat.reduceBEq, Nat.reduceLeDiff, Nat.reduceSub]
      refine ITri.ret ?_; exact EndX.mk (by simp) (by rfl) (by rfl) (by rfl)
    refine ITri.skip ?_; simp only [SeqQ_normal, BlkQ_normal]
    refine ITri.reg pok ?_; simp -implicitDefEqProofs (disch := first | decide | exact of_eq_true (eq_true rfl) | omega | assumption) only [ ↓vcD, vcE, ↓vcG, vcF, evs, evP, evB, intsOf, fillC, Value.cells, pt, Value.oneCell', reduceIte, reduceCtorEq, Nat.reduceEqDiff, Nat.reduceAdd, Nat.reduceMul, Nat.reduceLT, Nat.reduceBEq, Nat.reduceLeDiff, Nat.reduceSub]
    exact LoopQ.next (k + 1) ⟨by omega, ov_miss ho h3⟩ (by omega) (Wk.sub ⟨rfl, rfl, rfl, rfl, trivial⟩)
  refine ITri.exit ?_; try simp -implicitDefEqProofs (disch := first | decide | exact of_eq_true (eq_true rfl) | omega | assumption) only [ ↓vcD, vcE, ↓vcG, vcF, evs, evP, evB, intsOf, fillC, Value.cells, pt, Value.oneCell', reduceIte, reduceCtorEq, Nat.reduceEqDiff, Nat.reduceAdd, Nat.reduceMul, Nat.reduceLT, Nat.reduceBEq, Nat.reduceLeDiff, Nat.reduceSub]
  obtain rfl : n = k := by omega
  rw [ho]
  refine ITri.seq ?_
  refine ITri.reg pok ?_; simp -implicitDefEqProofs (disch := first | decide | exact of_eq_true (eq_true rfl) | omega | assumption) only [ ↓vcD, vcE, ↓vcG, vcF, evs, evP, evB, intsOf, fillC, Value.cells, pt, Value.oneCell', reduceIte, reduceCtorEq, Nat.reduceEqDiff, Nat.reduceAdd, Nat.reduceMul, Nat.reduceLT, Nat.reduceBEq, Nat.reduceLeDiff, Nat.reduceSub]
  refine ITri.ret ?_; exact EndX.mk (by simp) (by rfl) (by rfl) (by rfl)
theorem containsEQ_x {wl ks c n sz g : Nat} {op : Bool} {cs caps : List Value} {el : Nat → List Value} (L : List (Option AObj)) (p : Nat → Bool) (hb : n ≤ 1000000) (hH : (L[ks]?).join = some (cO cs sz op)) (ht : ∀ k, k < n → takeC cs (k * 2) 2 = some (el k))
    (F : ∀ k, k < n → Fc Try.prog g (.agg ⟨el k⟩ :: caps) (Hp wl L) (.bool (p k)) (Hp wl L)) :
    Fc Try.prog 86 [slO ks n c, .func (.func g) ⟨[]⟩ ⟨caps⟩] (Hp wl L) (.bool (decide (0 ≤ ovI p n))) (Hp wl L) := by
  refine Fc.introX fn86 (by simp) (fun _ => Grow.refl _) ?_
  simp only [argF]
  refine ITri.seq ?_
  refine ITri.reg pok ?_; simp -implicitDefEqProofs (disch := first | decide | exact of_eq_true (eq_true rfl) | omega | assumption) only [ ↓vcD, vcE, ↓vcG, vcF, evs, evP, evB, intsOf, fillC, Value.cells, pt, Value.oneCell', reduceIte, reduceCtorEq, Nat.reduceEqDiff, Nat.reduceAdd, Nat.reduceMul, Nat.reduceLT, Nat.reduceBEq, Nat.reduceLeDiff, Nat.reduceSub] -- r0
  refine ITri.seq ?_
  refine ITri.reg pok ?_; simp -implicitDefEqProofs (disch := first | decide | exact of_eq_true (eq_true rfl) | omega | assumption) only [ ↓vcD, vcE, ↓vcG, vcF, evs, evP, evB, intsOf, fillC, Value.cells, pt, Value.oneCell', reduceIte, reduceCtorEq, Nat.reduceEqDiff, Nat.reduceAdd, Nat.reduceMul, Nat.reduceLT, Nat.reduceBEq, Nat.reduceLeDiff, Nat.reduceSub] -- r1
  refine ⟨_, _, indexEQ_x L p hb hH ht F, ?_⟩
  try simp -implicitDefEqProofs (disch := first | decide | exact of_eq_true (eq_true rfl) | omega | assumption) only [ ↓vcD, vcE, ↓vcG, vcF, evs, evP, evB, intsOf, fillC, Value.cells, pt, Value.oneCell', reduceIte, reduceCtorEq, Nat.reduceEqDiff, Nat.reduceAdd, Nat.reduceMul, Nat.reduceLT, Nat.reduceBEq, Nat.reduceLeDiff, Nat.reduceSub]
  refine ITri.ret ?_; exact EndX.mk (by simp) (by rfl) (by rfl) (by rfl)

theorem every1Q_f {g kb : Nat} {caps el : List Value} {q : Bool} {L : List (Option AObj)} (hB : (L[kb]?).join = some (cO [.func (.func g) ⟨[]⟩ ⟨caps⟩] 1 false)) (hl : el.length = 2) (h1 : el.all Value.oneCell' = true)
    (F : ∀ T, Fc Try.prog g (.agg ⟨el⟩ :: caps) (Hp (L ++ T).length (L ++ T)) (.bool q) (Hp (L ++ T).length (L ++ T))) :
    Fc Try.prog 87 [.agg ⟨el⟩, pt kb] (Hp L.length L) (.bool (!q)) (Hp L.length L) := by
  have ht : takeC el 0 2 = some el := by rw [← hl]; exact takeC_0 _ _ rfl
  have hB' := fun T => join_app (T := T) hB
  refine Fc.intro0 fn87 (by simp) rfl rfl ?_; simp only [argF]
  refine ITri.seq ?_
  refine ITri.reg pok ?_; simp -implicitDefEqProofs (disch := first | decide | exact of_eq_true (eq_true rfl) | omega | assumption) only [h1,  ↓vcD, vcE, ↓vcG, vcF, evs, evP, evB, intsOf, fillC, Value.cells, pt, Value.oneCell', reduceIte, reduceCtorEq, Nat.reduceEqDiff, Nat.reduceAdd, Nat.reduceMul, Nat.reduceLT, Nat.reduceBEq, Nat.reduceLeDiff, Nat.reduceSub] -- r0
  refine ITri.seq ?_
  refine ITri.reg pok ?_; simp -implicitDefEqProofs (disch := first | decide | exact of_eq_true (eq_true rfl) | omega | assumption) only [apd_get, apd_get0, apd_set0, apd_set, List.length_append, List.append_assoc, Nat.add_assoc, hB', ht,  ↓vcD, vcE, ↓vcG, vcF, evs, evP, evB, intsOf, fillC, Value.cells, pt, Value.oneCell', reduceIte, reduceCtorEq, Nat.reduceEqDiff, Nat.reduceAdd, Nat.reduceMul, Nat.reduceLT, Nat.reduceBEq, Nat.reduceLeDiff, Nat.reduceSub] -- r1
  refine ⟨_, _, Fc.relax (by simp) (F [some (cO el 1 false)]), ?_⟩
  try simp -implicitDefEqProofs (disch := first | decide | exact of_eq_true (eq_true rfl) | omega | assumption) only [ ↓vcD, vcE, ↓vcG, vcF, evs, evP, evB, intsOf, fillC, Value.cells, pt, Value.oneCell', reduceIte, reduceCtorEq, Nat.reduceEqDiff, Nat.reduceAdd, Nat.reduceMul, Nat.reduceLT, Nat.reduceBEq, Nat.reduceLeDiff, Nat.reduceSub]
  refine ITri.ret ?_; exact EndR.plain (by simp) (by rfl) (by rfl) (by rfl)
theorem everyQ_f {ks c n sz g : Nat} {op : Bool} {cs caps : List Value} {el : Nat → List Value} (L : List (Option AObj)) (q : Nat → Bool) (hb : n ≤ 1000000) (hH : (L[ks]?).join = some (cO cs sz op)) (ht : ∀ k, k < n → takeC cs (k * 2) 2 = some (el k))
    (hl : ∀ k, k < n → (el k).length = 2) (h1 : ∀ k, k < n → (el k).all Value.oneCell' = true) (F : ∀ k, k < n → ∀ T, Fc Try.prog g (.agg ⟨el k⟩ :: caps) (Hp (L ++ T).length (L ++ T)) (.bool (q k)) (Hp (L ++ T).length (L ++ T))) :
    Fc Try.prog 36 [slO ks n c, .func (.func g) ⟨[]⟩ ⟨caps⟩] (Hp L.length L) (.bool (!decide (0 ≤ ovI (fun k => !q k) n))) (Hp L.length L) := by
  refine Fc.intro0 fn36 (by simp) rfl rfl ?_; simp only [argF]
  refine ITri.seq ?_
  refine ITri.reg pok ?_; simp -implicitDefEqProofs (disch := first | decide | exact of_eq_true (eq_true rfl) | omega | assumption) only [ ↓vcD, vcE, ↓vcG, vcF, evs, evP, evB, intsOf, fillC, Value.cells, pt, Value.oneCell', reduceIte, reduceCtorEq, Nat.reduceEqDiff, Nat.reduceAdd, Nat.reduceMul, Nat.reduceLT, Nat.reduceBEq, Nat.reduceLeDiff, Nat.reduceSub] -- r0
  refine ITri.seq ?_
  refine ITri.reg pok ?_; simp -implicitDefEqProofs (disch := first | decide | exact of_eq_true (eq_true rfl) | omega | assumption) only [apd_get, apd_get0, apd_set0, apd_set, List.length_append, List.append_assoc, Nat.add_assoc,  ↓vcD, vcE, ↓vcG, vcF, evs, evP, evB, intsOf, fillC, Value.cells, pt, Value.oneCell', reduceIte, reduceCtorEq, Nat.reduceEqDiff, Nat.reduceAdd, Nat.reduceMul, Nat.reduceLT, Nat.reduceBEq, Nat.reduceLeDiff, Nat.reduceSub] -- r1
  refine ⟨_, _, containsEQ_x (L ++ [some (cO [.func (.func g) ⟨[]⟩ ⟨caps⟩] 1 false)]) (fun k => !q k) hb (join_app hH) ht (fun k hk => Fc.relax (by simp) (every1Q_f (by rw [List.getElem?_append_right (Nat.le_refl _), Nat.sub_self]; rfl) (hl k hk) (h1 k hk) (fun T => by rw [List.append_assoc]; exact F k hk _))), ?_⟩
  try simp -implicitDefEqProofs (disch := first | decide | exact of_eq_true (eq_true rfl) | omega | assumption) only [ ↓vcD, vcE, ↓vcG, vcF, evs, evP, evB, intsOf, fillC, Value.cells, pt, Value.oneCell', reduceIte, reduceCtorEq, Nat.reduceEqDiff, Nat.reduceAdd, Nat.reduceMul, Nat.reduceLT, Nat.reduceBEq, Nat.reduceLeDiff, Nat.reduceSub]
  refine ITri.ret ?_; exact EndR.plain (by simp) (by rfl) (by rfl) (by rfl)

/- slices.IndexFunc[[]boule/api.ChartRule,boule/api.ChartRule] · slots 19 · names 0:s 1:f 2:s 3:f 5:i · results [4] -/
def ir103_r0 : IC := .reg [⟨some 4, none, false, .mv (.k (.int .i64 0))⟩] (some [0, 1])
def ir103_r1 : IC := .reg [⟨some 6, none, false, .mv (.t 0)⟩,
  ⟨some 7, none, false, .len (.t 6)⟩,
  ⟨some 8, none, false, .mv (.k (.int .i64 0))⟩] (some [0, 1, 7, 8])
def ir103_r2 : IC := .reg [⟨some 9, none, false, .cmp .lss (.t 8) (.t 7)⟩] (some [0, 1, 7, 8, 9])
def ir103_1 : IC := .cond (.t 9) .skip (.exit 0)
def ir103_r3 : IC := .reg [⟨some 10, none, false, .mv (.t 8)⟩,
  ⟨some 5, none, false, .mv (.t 10)⟩] (some [0, 1, 5, 7, 8])
def ir103_r4 : IC := .reg [⟨some 11, none, false, .mv (.t 1)⟩,
  ⟨some 12, none, false, .mv (.t 0)⟩,
  ⟨some 13, none, false, .mv (.t 5)⟩,
  ⟨some 14, none, false, .iad 3 (.t 12) (.t 13)⟩,
  ⟨some 15, none, false, .lda 3 (.t 14)⟩,
  ⟨some 16, none, false, .call (.t 11) [(.t 15)]⟩] (some [0, 1, 5, 7, 8, 16])
def ir103_r5 : IC := .reg [⟨some 17, none, false, .mv (.t 5)⟩,
  ⟨some 4, none, false, .mv (.t 17)⟩] (some [4])
def ir103_2 : IC := .seq ir103_r5 .ret
def ir103_3 : IC := .cond (.t 16) ir103_2 .skip
def ir103_4 : IC := .seq ir103_r4 ir103_3
def ir103_5 : IC := .seq ir103_r3 ir103_4
def ir103_6 : IC := .block 1 ir103_5
def ir103_r6 : IC := .reg [⟨some 18, none, false, .ar .add (.t 8) (.k (.int .i64 1))⟩,
  ⟨some 8, none, false, .mv (.t 18)⟩] (some [0, 1, 7, 8])
def ir103_7 : IC := .seq ir103_6 ir103_r6
def ir103_8 : IC := .seq ir103_1 ir103_7
def ir103_9 : IC := .seq ir103_r2 ir103_8
def ir103_10 : IC := .loop ir103_9
def ir103_11 : IC := .block 0 ir103_10
def ir103_12 : IC := .seq ir103_r1 ir103_11
def ir103_r7 : IC := .reg [⟨some 4, none, false, .mv (.k (.int .i64 (-1)))⟩] (some [4])
def ir103_13 : IC := .seq ir103_r7 .ret
def ir103_14 : IC := .seq ir103_12 ir103_13
def ir103_15 : IC := .seq ir103_r0 ir103_14
def ir103 : IC := ir103_15
theorem fn103 : FnIs Try.prog 103 ir103 19 [.tmp 4] := ⟨Try.f103, Try.f103.body.getD .skip, Try.func103, by kernel_rfl, by kernel_rfl, by kernel_rfl, by kernel_rfl⟩
/- slices.ContainsFunc[[]boule/api.ChartRule,boule/api.ChartRule] · slots 9 · names 0:s 1:f 2:s 3:f · results [4] -/
def ir81_r0 : IC := .reg [⟨some 4, none, false, .mv (.k (.bool false))⟩] (some [0, 1])
def ir81_r1 : IC := .reg [⟨some 5, none, false, .mv (.t 0)⟩,
  ⟨some 6, none, false, .mv (.t 1)⟩,
  ⟨some 7, none, false, .call (.f 103) [(.t 5), (.t 6)]⟩,
  ⟨some 8, none, false, .cmp .geq (.t 7) (.k (.int .i64 0))⟩,
  ⟨some 4, none, false, .mv (.t 8)⟩] (some [4])
def ir81_1 : IC := .seq ir81_r1 .ret
def ir81_2 : IC := .seq ir81_r0 ir81_1
def ir81 : IC := ir81_2
theorem fn81 : FnIs Try.prog 81 ir81 9 [.tmp 4] := ⟨Try.f81, Try.f81.body.getD .skip, Try.func81, by kernel_rfl, by kernel_rfl, by kernel_rfl, by kernel_rfl⟩
theorem indexEU_x {wl ks c n sz g : Nat} {op : Bool} {cs caps : List Value} {el : Nat → List Value} (L : List (Option AObj)) (p : Nat → Bool) (hb : n ≤ 1000000) (hH : (L[ks]?).join = some (cO cs sz op)) (ht : ∀ k, k < n → takeC cs (k * 3) 3 = some (el k))
    (F : ∀ k, k < n → Fc Try.prog g (.agg ⟨el k⟩ :: caps) (Hp wl L) (.bool (p k)) (Hp wl L)) :
    Fc Try.prog 103 [slO ks n c, .func (.func g) ⟨[]⟩ ⟨caps⟩] (Hp wl L) (.int .i64 (ovI p n)) (Hp wl L) := by
  refine Fc.introX fn103 (by simp) (fun _ => Grow.refl _) ?_
  simp only [argF]
  refine ITri.seq ?_
  refine ITri.reg pok ?_; simp -implicitDefEqProofs (disch := first | decide | exact of_eq_true (eq_true rfl) | omega | assumption) only [ ↓vcD, vcE, ↓vcG, vcF, evs, evP, evB, intsOf, fillC, Value.cells, pt, Value.oneCell', reduceIte, reduceCtorEq, Nat.reduceEqDiff, Nat.reduceAdd, Nat.reduceMul, Nat.reduceLT, Nat.reduceBEq, Nat.reduceLeDiff, Nat.reduceSub] -- r0
  refine ITri.seq ?_
  refine ITri.seq ?_
  refine ITri.reg pok ?_; simp -implicitDefEqProofs (disch := first | decide | exact of_eq_true (eq_true rfl) | omega | assumption) only [ ↓vcD, vcE, ↓vcG, vcF, evs, evP, evB, intsOf, fillC, Value.cells, pt, Value.oneCell', reduceIte, reduceCtorEq, Nat.reduceEqDiff, Nat.reduceAdd, Nat.reduceMul, Nat.reduceLT, Nat.reduceBEq, Nat.reduceLeDiff, Nat.reduceSub] -- r1
  refine ITri.block ?_
  refine ITri.loop (fun k : Nat => [(0, slO ks n c), (1, .func (.func g) ⟨[]⟩ ⟨caps⟩), (7, .int .i64 n), (8, .int .i64 k)]) (fun _ => []) (fun k => Hp wl L) (fun k => k ≤ n ∧ ovI p k = -1) (fun k => n - k) 0 ⟨Nat.zero_le _, rfl⟩ (Wk.sub ⟨rfl, rfl, rfl, rfl, trivial⟩) (fun k hk => ?_)
  obtain ⟨hk, ho⟩ := hk
  refine ITri.seq ?_
  refine ITri.reg pok ?_; simp -implicitDefEqProofs (disch := first | decide | exact of_eq_true (eq_true rfl) | omega | assumption) only [ ↓vcD, vcE, ↓vcG, vcF, evs, evP, evB, intsOf, fillC, Value.cells, pt, Value.oneCell', reduceIte, reduceCtorEq, Nat.reduceEqDiff, Nat.reduceAdd, Nat.reduceMul, Nat.reduceLT, Nat.reduceBEq, Nat.reduceLeDiff, Nat.reduceSub]
  refine ITri.seq ?_
  refine ITri.condD (by rfl) (fun h1 => ?_) (fun h1 => ?_)
  · have h2 : k < n := by omega
    have hg : takeC cs (k * 3) 3 = some (el k) := ht k h2
    refine ITri.skip ?_; simp only [SeqQ_normal, BlkQ_normal]
    refine ITri.seq ?_
    refine ITri.block ?_
    refine ITri.seq ?_
    refine ITri.reg pok ?_; simp -implicitDefEqProofs (disch := first | decide | exact of_eq_true (eq_true rfl) | omega | assumption) only [ ↓vcD, vcE, ↓vcG, vcF, evs, evP, evB, intsOf, fillC, Value.cells, pt, Value.oneCell', reduceIte, reduceCtorEq, Nat.reduceEqDiff, Nat.reduceAdd, Nat.reduceMul, Nat.reduceLT, Nat.reduceBEq, Nat.reduceLeDiff, Nat.reduceSub]
    refine ITri.seq ?_
    refine ITri.reg pok ?_; simp -implicitDefEqProofs (disch := first | decide | exact of_eq_true (eq_true rfl) | omega | assumption) only [hH, hg,  ↓vcD, vcE, ↓vcG, vcF, evs, evP, evB, intsOf, fillC, Value.cells, pt, Value.oneCell', reduceIte, reduceCtorEq, Nat.reduceEqDiff, Nat.reduceAdd, Nat.reduceMul, Nat.reduceLT, Nat.reduceBEq, Nat.reduceLeDiff, Nat.reduceSub]
    refine ⟨_, _, F k h2, ?_⟩
    try simp -implicitDefEqProofs (disch := first | decide | exact of_eq_true (eq_true rfl) | omega | assumption) only [ ↓vcD, vcE, ↓vcG, vcF, evs, evP, evB, intsOf, fillC, Value.cells, pt, Value.oneCell', reduceIte, reduceCtorEq, Nat.reduceEqDiff, Nat.reduceAdd, Nat.reduceMul, Nat.reduceLT, Nat.reduceBEq, Nat.reduceLeDiff, Nat.reduceSub]
    refine ITri.cond (by rfl) (fun h3 => ?_) (fun h3 => ?_)
    · have h4 := ov_hit ho h3 h2
      rw [h4]
      refine ITri.seq ?_
      refine ITri.reg pok ?_; simp -implicitDefEqProofs (disch := first | decide | exact of_eq_true (eq_true rfl) | omega | assumption) only [ ↓vcD, vcE, ↓vcG, vcF, evs, evP, evB, intsOf, fillC, Value.cells, pt, Value.oneCell', reduceIte, reduceCtorEq, Nat.reduceEqDiff, Nat.reduceAdd, Nat.reduceMul, Nat.reduceLT, Nat.reduceBEq, Nat.reduceLeDiff, Nat.reduceSub]
      refine ITri.ret ?_; exact EndX.mk (by simp) (by rfl) (by rfl) (by rfl)
    refine ITri.skip ?_; simp only [SeqQ_normal, BlkQ_normal]
    refine ITri.reg pok ?_; simp -implicitDefEqProofs (disch := first | decide | exact of_eq_true (eq_true rfl) | omega | assumption) only [ ↓vcD, vcE, ↓vcG, vcF, evs, evP, evB, intsOf, fillC, Value.cells, pt, Value.oneCell', reduceIte, reduceCtorEq, Nat.reduceEqDiff, Nat.reduceAdd, Nat.reduceMul, Nat.reduceLT, Nat.reduceBEq, Nat.reduceLeDiff, Nat.reduceSub]
    exact LoopQ.next (k + 1) ⟨by omega, ov_miss ho h3⟩ (by omega) (Wk.sub ⟨rfl, rfl, rfl, rfl, trivial⟩)
  refine ITri.exit ?_; try simp -implicitDefEqProofs (disch := first | decide | exact of_eq_true (eq_true rfl) | omega | assumption) only [ ↓vcD, vcE, ↓vcG, vcF, evs, evP, evB, intsOf, fillC, Value.cells, pt, Value.oneCell', reduceIte, reduceCtorEq, Nat.reduceEqDiff, Nat.reduceAdd, Nat.reduceMul, Nat.reduceLT, Nat.reduceBEq, Nat.reduceLeDiff, Nat.reduceSub]
  obtain rfl : n = k := by omega
  rw [ho]
  refine ITri.seq ?_
  refine ITri.reg pok ?_; simp -implicitDefEqProofs (disch := first | decide | exact of_eq_true (eq_true rfl) | omega | assumption) only [ ↓vcD, vcE, ↓vcG, vcF, evs, evP, evB, intsOf, fillC, Value.cells, pt, Value.oneCell', reduceIte, reduceCtorEq, Nat.reduceEqDiff, Nat.reduceAdd, Nat.reduceMul, Nat.reduceLT, Nat.reduceBEq, Nat.reduceLeDiff, Nat.reduceSub]
  refine ITri.ret ?_; exact EndX.mk (by simp) (by rfl) (by rfl) (by rfl)
theorem containsEU_x {wl ks c n sz g : Nat} {op : Bool} {cs caps : List Value} {el : Nat → List Value} (L : List (Option AObj)) (p : Nat → Bool) (hb : n ≤ 1000000) (hH : (L[ks]?).join = some (cO cs sz op)) (ht : ∀ k, k < n → takeC cs (k * 3) 3 = some (el k))
    (F : ∀ k, k < n → Fc Try.prog g (.agg ⟨el k⟩ :: caps) (Hp wl L) (.bool (p k)) (Hp wl L)) :
    Fc Try.prog 81 [slO ks n c, .func (.func g) ⟨[]⟩ ⟨caps⟩] (Hp wl L) (.bool (decide (0 ≤ ovI p n))) (Hp wl L) := by
  refine Fc.introX fn81 (by simp) (fun _ => Grow.refl _) ?_
  simp only [argF]
  refine ITri.seq ?_
  refine ITri.reg pok ?_; simp -implicitDefEqProofs (disch := first | decide | exact of_eq_true (eq_true rfl) | omega | assumption) only [ ↓vcD, vcE, ↓vcG, vcF, evs, evP, evB, intsOf, fillC, Value.cells, pt, Value.oneCell', reduceIte, reduceCtorEq, Nat.reduceEqDiff, Nat.reduceAdd, Nat.reduceMul, Nat.reduceLT, Nat.reduceBEq, Nat.reduceLeDiff, Nat.reduceSub] -- r0
  refine ITri.seq ?_
  refine ITri.reg pok ?_; simp -implicitDefEqProofs (disch := first | decide | exact of_eq_true (eq_true rfl) | omega | assumption) only [ ↓vcD, vcE, ↓vcG, vcF, evs, evP, evB, intsOf, fillC, Value.cells, pt, Value.oneCell', reduceIte, reduceCtorEq, Nat.reduceEqDiff, Nat.reduceAdd, Nat.reduceMul, Nat.reduceLT, Nat.reduceBEq, Nat.reduceLeDiff, Nat.reduceSub] -- r1
  refine ⟨_, _, indexEU_x L p hb hH ht F, ?_⟩
  try simp -implicitDefEqProofs (disch := first | decide | exact of_eq_true (eq_true rfl) | omega | assumption) only [ ↓vcD, vcE, ↓vcG, vcF, evs, evP, evB, intsOf, fillC, Value.cells, pt, Value.oneCell', reduceIte, reduceCtorEq, Nat.reduceEqDiff, Nat.reduceAdd, Nat.reduceMul, Nat.reduceLT, Nat.reduceBEq, Nat.reduceLeDiff, Nat.reduceSub]
  refine ITri.ret ?_; exact EndX.mk (by simp) (by rfl) (by rfl) (by rfl)
-- END
end Go.Proofs.Ythoigkgjidcklaa
