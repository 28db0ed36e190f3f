/-
  Chapter 11, by names: shop.Alarms.
-/
import Derived.Test.YtfmcdbcoljpomaaShopF9
set_option linter.unusedSimpArgs false
set_option linter.unusedVariables false
namespace Go.Vm
open Go Go.RowKit
theorem appK_z1 {h : AH} {sz bytes k o n c2 : Nat} {K : Value → AH → Prop} : appK h sz bytes (.slice (some ⟨k, o, none⟩) n openB) (.slice none 0 c2) K = K (.slice (some ⟨k, o, none⟩) n openB) h := by
  unfold appK
  have e : sCells h sz (.slice none 0 c2) = some [] := by unfold sCells; exact if_pos rfl
  rw [e]
  simp only [slen_slice]
  exact propext ⟨fun h => (h.1 trivial).2, fun h => ⟨fun _ => ⟨.inr ⟨Nat.le_refl _, rfl⟩, h⟩, fun e => absurd rfl e⟩⟩
theorem appK_z2 {h : AH} {sz bytes c2 : Nat} {K : Value → AH → Prop} : appK h sz bytes (.slice none 0 0) (.slice none 0 c2) K = K (.slice none 0 0) h := by
  unfold appK
  have e : sCells h sz (.slice none 0 c2) = some [] := by unfold sCells; exact if_pos rfl
  rw [e]
  simp only [slen_slice]
  have ho : 0 < openB := by unfold openB; omega
  exact propext ⟨fun h => (h.1 trivial).2, fun h => ⟨fun _ => ⟨.inl ⟨ho, Nat.le_refl _⟩, h⟩, fun e => absurd rfl e⟩⟩
theorem appK_z3 {h : AH} {sz bytes k2 o2 c2 : Nat} {K : Value → AH → Prop} : appK h sz bytes (.slice none 0 0) (.slice (some ⟨k2, o2, none⟩) 0 c2) K = K (.slice none 0 0) h := by
  unfold appK
  have e : sCells h sz (.slice (some ⟨k2, o2, none⟩) 0 c2) = some [] := by unfold sCells; exact if_pos rfl
  rw [e]
  simp only [slen_slice]
  have ho : 0 < openB := by unfold openB; omega
  exact propext ⟨fun h => (h.1 trivial).2, fun h => ⟨fun _ => ⟨.inl ⟨ho, Nat.le_refl _⟩, h⟩, fun e => absurd rfl e⟩⟩
/-- How a function ends that returns nil, under a name, and a number. -/
theorem end_nil2 {P : Program} {rs : List ResultVar} {l : Fr} {L : List (Option AObj)} {b sz : Nat} {e : Int} (hr : resF P l (Hp b L) rs = some [.slice none 0 0, .int .i64 e]) :
    EndR P rs b [.cells ⟨[], sz, true⟩] (.tuple #[.slice (some ⟨b, 0, none⟩) 0 openB, .int .i64 e]) .ret l [] (Hp b L) := by
  refine ⟨by simp, rfl, _, [b], [(b, .nil)], hr, rfl, by simp, by simp, (fun p hp => by simp at hp; subst hp; exact ⟨Nat.le_refl _, trivial⟩), ?_, ?_, fun i o2 h => .inl ?_⟩
  · show Value.tuple #[_, _] = .tuple ⟨[mvS (xiL [(b, .nil)] b) _ 0 openB, _]⟩
    simp [mvS, xiL]
    rfl
  · refine ⟨⟨by show b < b + 1; omega, ?_⟩, trivial, trivial⟩
    show okS (xiL [(b, .nil)] b) 0 openB
    simp [xiL, okS]
  · match i, h with
    | 0, h =>
      cases h
      exact ⟨by simp [xiL], rfl⟩
end Go.Vm
namespace Go.Proofs.Ytfmcdbcoljpomaa
open Go.RowKit Go.Vm
set_option maxRecDepth 100000
/- slices.ContainsFunc[[]int,int] · slots 9 · names 0:s 1:f 2:s 3:f · results [4] -/
def ir44_r0 : IC := .reg [⟨some 4, none, false, .mv (.k (.bool false))⟩] (some [0, 1])
def ir44_r1 : IC := .reg [⟨some 5, none, false, .mv (.t 0)⟩,
  ⟨some 6, none, false, .mv (.t 1)⟩,
  ⟨some 7, none, false, .call (.f 54) [(.t 5), (.t 6)]⟩,
  ⟨some 8, none, false, .cmp .geq (.t 7) (.k (.int .i64 0))⟩,
  ⟨some 4, none, false, .mv (.t 8)⟩] (some [4])
def ir44_1 : IC := .seq ir44_r1 .ret
def ir44_2 : IC := .seq ir44_r0 ir44_1
def ir44 : IC := ir44_2
theorem fn44 : FnIs Try.prog 44 ir44 9 [.tmp 4] := ⟨Try.f44, Try.f44.body.getD .skip, Try.func44, by kernel_rfl, by kernel_rfl, by kernel_rfl, by kernel_rfl⟩
/- boule/shop.Alarms$1 · slots 6 · names 0:v 1:v · results [2] -/
def ir45_r0 : IC := .reg [⟨some 2, none, false, .mv (.k (.bool false))⟩] (some [0])
def ir45_r1 : IC := .reg [⟨some 3, none, false, .mv (.t 0)⟩,
  ⟨some 4, none, false, .call (.f 42) [(.t 3), (.k (.int .i64 (-1000000))), (.k (.int .i64 1000000))]⟩,
  ⟨some 5, none, false, .not (.t 4)⟩,
  ⟨some 2, none, false, .mv (.t 5)⟩] (some [2])
def ir45_1 : IC := .seq ir45_r1 .ret
def ir45_2 : IC := .seq ir45_r0 ir45_1
def ir45 : IC := ir45_2
theorem fn45 : FnIs Try.prog 45 ir45 6 [.tmp 2] := ⟨Try.f45, Try.f45.body.getD .skip, Try.func45, by kernel_rfl, by kernel_rfl, by kernel_rfl, by kernel_rfl⟩
/- boule/shop.newWatch · slots 11 · names 0:c 1:c · results [2] -/
def ir46_r0 : IC := .reg [⟨some 1, none, false, .box (.t 0)⟩,
  ⟨some 2, none, false, .mv (.k (.pointer none))⟩] (some [1])
def ir46_r1 : IC := .reg [⟨some 3, none, false, .fad 1 (.t 1)⟩,
  ⟨some 4, none, false, .ldc (.t 3)⟩,
  ⟨some 5, none, false, .call (.f 96) [(.t 4)]⟩,
  ⟨some 6, none, false, .fad 1 (.t 1)⟩,
  ⟨none, none, false, .st 1 (.t 6) (.t 5)⟩] (some [1])
def ir46_r2 : IC := .reg [⟨some 7, none, false, .lda 2 (.t 1)⟩,
  ⟨some 8, none, false, .gen (.makeMap 181 none)⟩,
  ⟨some 9, none, false, .bld [(.int .i64 0), (.slice none 0 0), (.int .i64 0), (.map none)] [(0, 2, (.t 7)), (3, 1, (.t 8))]⟩,
  ⟨some 10, none, false, .box (.t 9)⟩,
  ⟨some 2, none, false, .mv (.t 10)⟩] (some [2])
def ir46_1 : IC := .seq ir46_r2 .ret
def ir46_2 : IC := .seq ir46_r1 ir46_1
def ir46_3 : IC := .seq ir46_r0 ir46_2
def ir46 : IC := ir46_3
theorem fn46 : FnIs Try.prog 46 ir46 11 [.tmp 2] := ⟨Try.f46, Try.f46.body.getD .skip, Try.func46, by kernel_rfl, by kernel_rfl, by kernel_rfl, by kernel_rfl⟩
/- boule/shop.Alarms · slots 36 · names 0:c 1:values 2:c 3:values 6:l 7:w 8:_ 9:v · results [4, 5] -/
def ir14_r0 : IC := .reg [⟨some 2, none, false, .box (.t 0)⟩,
  ⟨some 4, none, false, .mv (.k (.slice none 0 0))⟩,
  ⟨some 5, none, false, .mv (.k (.int .i64 0))⟩] (some [1, 2])
def ir14_r1 : IC := .reg [⟨some 11, none, false, .lda 2 (.t 2)⟩,
  ⟨some 12, none, false, .call (.f 13) [(.t 11)]⟩,
  ⟨some 13, none, false, .cmp .neq (.t 12) (.k (.int .i64 0))⟩,
  ⟨some 10, none, false, .mv (.t 13)⟩] (some [1, 2, 10])
def ir14_r2 : IC := .reg [⟨some 4, none, false, .mv (.k (.slice none 0 0))⟩,
  ⟨some 5, none, false, .mv (.k (.int .i64 2))⟩] (some [4, 5])
def ir14_1 : IC := .seq ir14_r2 .ret
def ir14_r3 : IC := .reg [⟨some 15, none, false, .mv (.t 1)⟩,
  ⟨some 16, none, false, .len (.t 15)⟩,
  ⟨some 17, none, false, .cmp .gtr (.t 16) (.k (.int .i64 200))⟩,
  ⟨some 14, none, false, .mv (.t 17)⟩] (some [1, 2, 14])
def ir14_r4 : IC := .reg [⟨some 4, none, false, .mv (.k (.slice none 0 0))⟩,
  ⟨some 5, none, false, .mv (.k (.int .i64 5))⟩] (some [4, 5])
def ir14_2 : IC := .seq ir14_r4 .ret
def ir14_r5 : IC := .reg [⟨some 19, none, false, .mv (.t 1)⟩,
  ⟨some 20, none, false, .call (.f 44) [(.t 19), (.f 45)]⟩,
  ⟨some 18, none, false, .mv (.t 20)⟩] (some [1, 2, 18])
def ir14_r6 : IC := .reg [⟨some 4, none, false, .mv (.k (.slice none 0 0))⟩,
  ⟨some 5, none, false, .mv (.k (.int .i64 3))⟩] (some [4, 5])
def ir14_3 : IC := .seq ir14_r6 .ret
def ir14_4 : IC := .cond (.t 18) ir14_3 .skip
def ir14_5 : IC := .seq ir14_r5 ir14_4
def ir14_6 : IC := .cond (.t 14) ir14_2 ir14_5
def ir14_7 : IC := .seq ir14_r3 ir14_6
def ir14_8 : IC := .cond (.t 10) ir14_1 ir14_7
def ir14_9 : IC := .seq ir14_r1 ir14_8
def ir14_10 : IC := .block 0 ir14_9
def ir14_r7 : IC := .reg [⟨some 6, none, false, .mv (.k (.slice none 0 0))⟩] (some [1, 2, 6])
def ir14_r8 : IC := .reg [⟨some 21, none, false, .lda 2 (.t 2)⟩,
  ⟨some 22, none, false, .call (.f 46) [(.t 21)]⟩,
  ⟨some 7, none, false, .mv (.t 22)⟩] (some [1, 6, 7])
def ir14_r9 : IC := .reg [⟨some 23, none, false, .mv (.t 1)⟩,
  ⟨some 24, none, false, .len (.t 23)⟩,
  ⟨some 25, none, false, .mv (.k (.int .i64 0))⟩] (some [6, 7, 23, 24, 25])
def ir14_r10 : IC := .reg [⟨some 26, none, false, .cmp .lss (.t 25) (.t 24)⟩] (some [6, 7, 23, 24, 25, 26])
def ir14_11 : IC := .cond (.t 26) .skip (.exit 1)
def ir14_r11 : IC := .reg [⟨some 27, none, false, .iad 1 (.t 23) (.t 25)⟩,
  ⟨some 28, none, false, .ldc (.t 27)⟩,
  ⟨some 9, none, false, .mv (.t 28)⟩] (some [6, 7, 9, 23, 24, 25])
def ir14_r12 : IC := .reg [⟨some 29, none, false, .mv (.t 6)⟩,
  ⟨some 30, none, false, .mv (.t 7)⟩,
  ⟨some 31, none, false, .mv (.t 9)⟩,
  ⟨some 32, none, false, .call (.f 47) [(.t 30), (.t 31)]⟩,
  ⟨some 33, none, false, .app 3 24 (.t 29) (.t 32)⟩,
  ⟨some 6, none, false, .mv (.t 33)⟩] (some [6, 7, 23, 24, 25])
def ir14_12 : IC := .seq ir14_r11 ir14_r12
def ir14_13 : IC := .block 2 ir14_12
def ir14_r13 : IC := .reg [⟨some 34, none, false, .ar .add (.t 25) (.k (.int .i64 1))⟩,
  ⟨some 25, none, false, .mv (.t 34)⟩] (some [6, 7, 23, 24, 25])
def ir14_14 : IC := .seq ir14_13 ir14_r13
def ir14_15 : IC := .seq ir14_11 ir14_14
def ir14_16 : IC := .seq ir14_r10 ir14_15
def ir14_17 : IC := .loop ir14_16
def ir14_18 : IC := .block 1 ir14_17
def ir14_19 : IC := .seq ir14_r9 ir14_18
def ir14_r14 : IC := .reg [⟨some 35, none, false, .mv (.t 6)⟩,
  ⟨some 4, none, false, .mv (.t 35)⟩,
  ⟨some 5, none, false, .mv (.k (.int .i64 0))⟩] (some [4, 5])
def ir14_20 : IC := .seq ir14_r14 .ret
def ir14_21 : IC := .seq ir14_19 ir14_20
def ir14_22 : IC := .seq ir14_r8 ir14_21
def ir14_23 : IC := .seq ir14_r7 ir14_22
def ir14_24 : IC := .seq ir14_10 ir14_23
def ir14_25 : IC := .seq ir14_r0 ir14_24
def ir14 : IC := ir14_25
theorem fn14 : FnIs Try.prog 14 ir14 36 [.tmp 4, .tmp 5] := ⟨Try.f14, Try.f14.body.getD .skip, Try.func14, by kernel_rfl, by kernel_rfl, by kernel_rfl, by kernel_rfl⟩
theorem outV_f (v : Int) {h : AH} (hs : h.sees 0 = true) : Fc Try.prog 45 [.int .i64 v] h (.bool (!inT v (-1000000) 1000000)) h := by
  refine Fc.lift0 ?_ rfl rfl hs
  refine Fc.intro0 fn45 (by simp) rfl rfl ?_; simp only [argF]
  refine ITri.seq ?_
  refine ITri.reg pokT ?_; simp -implicitDefEqProofs (disch := first | decide | exact of_eq_true (eq_true rfl) | omega | assumption) only [ ↓vcD, vcE, evs, evP, evB, intsOf, fillC, Value.cells, pt, List.append_nil, List.nil_append, List.cons_append, List.length_cons, List.length_nil, List.filter_nil, List.map_nil, ↓List.getElem?_cons_zero, ↓List.getElem?_cons_succ, List.getElem?_cons_zero, List.getElem?_cons_succ, List.set_cons_zero, List.set_cons_succ, Option.join_some, Option.join_none, Option.map_some, List.all_cons, List.all_nil, Value.oneCell', reduceIte, reduceCtorEq, Nat.reduceEqDiff, Nat.reduceAdd, Nat.reduceMul, Nat.reduceLT, Nat.reduceBEq, Nat.reduceLeDiff, Nat.reduceSub, List.size_toArray]
  refine ITri.seq ?_
  refine ITri.reg pokT ?_; simp -implicitDefEqProofs (disch := first | decide | exact of_eq_true (eq_true rfl) | omega | assumption) only [ ↓vcD, vcE, evs, evP, evB, intsOf, fillC, Value.cells, pt, List.append_nil, List.nil_append, List.cons_append, List.length_cons, List.length_nil, List.filter_nil, List.map_nil, ↓List.getElem?_cons_zero, ↓List.getElem?_cons_succ, List.getElem?_cons_zero, List.getElem?_cons_succ, List.set_cons_zero, List.set_cons_succ, Option.join_some, Option.join_none, Option.map_some, List.all_cons, List.all_nil, Value.oneCell', reduceIte, reduceCtorEq, Nat.reduceEqDiff, Nat.reduceAdd, Nat.reduceMul, Nat.reduceLT, Nat.reduceBEq, Nat.reduceLeDiff, Nat.reduceSub, List.size_toArray]
  refine ⟨_, _, in_f _ _ _ (sees0 rfl (of_decide_eq_true rfl)), ?_⟩
  try simp -implicitDefEqProofs (disch := first | decide | exact of_eq_true (eq_true rfl) | omega | assumption) only [ ↓vcD, vcE, evs, evP, evB, intsOf, fillC, Value.cells, pt, List.append_nil, List.nil_append, List.cons_append, List.length_cons, List.length_nil, List.filter_nil, List.map_nil, ↓List.getElem?_cons_zero, ↓List.getElem?_cons_succ, List.getElem?_cons_zero, List.getElem?_cons_succ, List.set_cons_zero, List.set_cons_succ, Option.join_some, Option.join_none, Option.map_some, List.all_cons, List.all_nil, Value.oneCell', reduceIte, reduceCtorEq, Nat.reduceEqDiff, Nat.reduceAdd, Nat.reduceMul, Nat.reduceLT, Nat.reduceBEq, Nat.reduceLeDiff, Nat.reduceSub, List.size_toArray]
  refine ITri.ret ?_; exact EndR.plain (by simp) (by rfl) (by rfl) (by rfl)
theorem containsV_x {wl ks n c sz : Nat} {op : Bool} {xs : List Int} (L : List (Option AObj)) (hx : xs.length = n) (hb : n ≤ 1000000) (h0 : 0 < L.length) (hH : (L[ks]?).join = some (.cells ⟨rows eN xs, sz, op⟩)) :
    Fc Try.prog 44 [.slice (some ⟨ks, 0, none⟩) n c, .func (.func 45) #[] #[]] (Hp wl L) (.bool (xs.any fun k => !inT k (-1000000) 1000000)) (Hp wl L) := by
  have hI := indexI_x (wl := wl) (c := c) (g := 45) (caps := []) (fun _ => L) (fun k => !inT (nth xs k) (-1000000) 1000000) hx hb (fun k hk => hH) (fun k hk => ⟨Nat.le_refl _, rfl⟩) (fun k hk => outV_f _ (sees0 rfl h0))
  have hany : decide (0 ≤ ovI (fun k => !inT (nth xs k) (-1000000) 1000000) n) = xs.any fun k => !inT k (-1000000) 1000000 := by rw [← hx]; exact ov_any (f := fun k => !inT k (-1000000) 1000000)
  refine Fc.introX fn44 (by simp) (fun _ => Grow.refl _) ?_
  simp only [argF]
  refine ITri.seq ?_
  refine ITri.reg pokT ?_; simp -implicitDefEqProofs (disch := first | decide | exact of_eq_true (eq_true rfl) | omega | assumption) only [ ↓vcD, vcE, evs, evP, evB, intsOf, fillC, Value.cells, pt, List.append_nil, List.nil_append, List.cons_append, List.length_cons, List.length_nil, List.filter_nil, List.map_nil, ↓List.getElem?_cons_zero, ↓List.getElem?_cons_succ, List.getElem?_cons_zero, List.getElem?_cons_succ, List.set_cons_zero, List.set_cons_succ, Option.join_some, Option.join_none, Option.map_some, List.all_cons, List.all_nil, Value.oneCell', reduceIte, reduceCtorEq, Nat.reduceEqDiff, Nat.reduceAdd, Nat.reduceMul, Nat.reduceLT, Nat.reduceBEq, Nat.reduceLeDiff, Nat.reduceSub, List.size_toArray]
  refine ITri.seq ?_
  refine ITri.reg pokT ?_; simp -implicitDefEqProofs (disch := first | decide | exact of_eq_true (eq_true rfl) | omega | assumption) only [ ↓vcD, vcE, evs, evP, evB, intsOf, fillC, Value.cells, pt, List.append_nil, List.nil_append, List.cons_append, List.length_cons, List.length_nil, List.filter_nil, List.map_nil, ↓List.getElem?_cons_zero, ↓List.getElem?_cons_succ, List.getElem?_cons_zero, List.getElem?_cons_succ, List.set_cons_zero, List.set_cons_succ, Option.join_some, Option.join_none, Option.map_some, List.all_cons, List.all_nil, Value.oneCell', reduceIte, reduceCtorEq, Nat.reduceEqDiff, Nat.reduceAdd, Nat.reduceMul, Nat.reduceLT, Nat.reduceBEq, Nat.reduceLeDiff, Nat.reduceSub, List.size_toArray]
  refine ⟨_, _, hI, ?_⟩
  simp -implicitDefEqProofs (disch := first | decide | exact of_eq_true (eq_true rfl) | omega | assumption) only [hany,  ↓vcD, vcE, evs, evP, evB, intsOf, fillC, Value.cells, pt, List.append_nil, List.nil_append, List.cons_append, List.length_cons, List.length_nil, List.filter_nil, List.map_nil, ↓List.getElem?_cons_zero, ↓List.getElem?_cons_succ, List.getElem?_cons_zero, List.getElem?_cons_succ, List.set_cons_zero, List.set_cons_succ, Option.join_some, Option.join_none, Option.map_some, List.all_cons, List.all_nil, Value.oneCell', reduceIte, reduceCtorEq, Nat.reduceEqDiff, Nat.reduceAdd, Nat.reduceMul, Nat.reduceLT, Nat.reduceBEq, Nat.reduceLeDiff, Nat.reduceSub, List.size_toArray]
  refine ITri.ret ?_; exact EndX.mk (by simp) (by rfl) (by rfl) (by rfl)
theorem any_notV (xs : List Int) : (xs.any fun k => !inT k (-1000000) 1000000) = !xs.all fun v => inT v (-1000000) 1000000 := by
  induction xs with
  | nil => rfl
  | cons x r ih => rw [List.any_cons, List.all_cons, ih, Bool.not_and]
abbrev m4 (n c : Nat) (cen : Int) (rs : List Ru) (vs : List Int) : List (Option AObj) := [none, some (.cells ⟨rows eU rs, 0, false⟩), some (.cells ⟨rows eN vs, 0, false⟩), some (.cells ⟨[.int .i64 cen, .slice (some ⟨1, 0, none⟩) n c], 1, false⟩)]
theorem newWatch_x (n c : Nat) (cen : Int) (rs : List Ru) (vs : List Int) (hn : rs.length = n) (hb : n ≤ 1000000) :
    Fc Try.prog 46 [chV cen (.slice (some ⟨1, 0, none⟩) n c)] (Hp 3 (m4 n c cen rs vs)) (pt 7) (Hp 3 (m4 n c cen rs vs ++ [some (.cells ⟨[.int .i64 cen, rl7 n], 1, false⟩), some (.cells ⟨rows eU rs, 3, true⟩), some (.map [] 0), wt7 cen n 0])) := by
  refine Fc.introX fn46 (by simp) (fun _ => grow_hq (by simp) rfl) ?_
  simp only [argF]
  refine ITri.seq ?_
  refine ITri.reg pokT ?_; simp -implicitDefEqProofs (disch := first | decide | exact of_eq_true (eq_true rfl) | omega | assumption) only [ ↓vcD, vcE, evs, evP, evB, intsOf, fillC, Value.cells, pt, List.append_nil, List.nil_append, List.cons_append, List.length_cons, List.length_nil, List.filter_nil, List.map_nil, ↓List.getElem?_cons_zero, ↓List.getElem?_cons_succ, List.getElem?_cons_zero, List.getElem?_cons_succ, List.set_cons_zero, List.set_cons_succ, Option.join_some, Option.join_none, Option.map_some, List.all_cons, List.all_nil, Value.oneCell', reduceIte, reduceCtorEq, Nat.reduceEqDiff, Nat.reduceAdd, Nat.reduceMul, Nat.reduceLT, Nat.reduceBEq, Nat.reduceLeDiff, Nat.reduceSub, List.size_toArray] -- r0
  refine ITri.seq ?_
  refine ITri.reg pokT ?_; simp -implicitDefEqProofs (disch := first | decide | exact of_eq_true (eq_true rfl) | omega | assumption) only [ ↓vcD, vcE, evs, evP, evB, intsOf, fillC, Value.cells, pt, List.append_nil, List.nil_append, List.cons_append, List.length_cons, List.length_nil, List.filter_nil, List.map_nil, ↓List.getElem?_cons_zero, ↓List.getElem?_cons_succ, List.getElem?_cons_zero, List.getElem?_cons_succ, List.set_cons_zero, List.set_cons_succ, Option.join_some, Option.join_none, Option.map_some, List.all_cons, List.all_nil, Value.oneCell', reduceIte, reduceCtorEq, Nat.reduceEqDiff, Nat.reduceAdd, Nat.reduceMul, Nat.reduceLT, Nat.reduceBEq, Nat.reduceLeDiff, Nat.reduceSub, List.size_toArray] -- r1
  refine ⟨_, _, clone_f (k := 1) hn hb (get_hq rfl rfl), ?_⟩
  try simp -implicitDefEqProofs (disch := first | decide | exact of_eq_true (eq_true rfl) | omega | assumption) only [ ↓vcD, vcE, evs, evP, evB, intsOf, fillC, Value.cells, pt, List.append_nil, List.nil_append, List.cons_append, List.length_cons, List.length_nil, List.filter_nil, List.map_nil, ↓List.getElem?_cons_zero, ↓List.getElem?_cons_succ, List.getElem?_cons_zero, List.getElem?_cons_succ, List.set_cons_zero, List.set_cons_succ, Option.join_some, Option.join_none, Option.map_some, List.all_cons, List.all_nil, Value.oneCell', reduceIte, reduceCtorEq, Nat.reduceEqDiff, Nat.reduceAdd, Nat.reduceMul, Nat.reduceLT, Nat.reduceBEq, Nat.reduceLeDiff, Nat.reduceSub, List.size_toArray]
  refine ITri.seq ?_
  refine ITri.reg pokT ?_; simp -implicitDefEqProofs (disch := first | decide | exact of_eq_true (eq_true rfl) | omega | assumption) only [ ↓vcD, vcE, evs, evP, evB, intsOf, fillC, Value.cells, pt, List.append_nil, List.nil_append, List.cons_append, List.length_cons, List.length_nil, List.filter_nil, List.map_nil, ↓List.getElem?_cons_zero, ↓List.getElem?_cons_succ, List.getElem?_cons_zero, List.getElem?_cons_succ, List.set_cons_zero, List.set_cons_succ, Option.join_some, Option.join_none, Option.map_some, List.all_cons, List.all_nil, Value.oneCell', reduceIte, reduceCtorEq, Nat.reduceEqDiff, Nat.reduceAdd, Nat.reduceMul, Nat.reduceLT, Nat.reduceBEq, Nat.reduceLeDiff, Nat.reduceSub, List.size_toArray] -- r2
  refine gen_mkmap u_map ?_
  try simp -implicitDefEqProofs (disch := first | decide | exact of_eq_true (eq_true rfl) | omega | assumption) only [ ↓vcD, vcE, evs, evP, evB, intsOf, fillC, Value.cells, pt, List.append_nil, List.nil_append, List.cons_append, List.length_cons, List.length_nil, List.filter_nil, List.map_nil, ↓List.getElem?_cons_zero, ↓List.getElem?_cons_succ, List.getElem?_cons_zero, List.getElem?_cons_succ, List.set_cons_zero, List.set_cons_succ, Option.join_some, Option.join_none, Option.map_some, List.all_cons, List.all_nil, Value.oneCell', reduceIte, reduceCtorEq, Nat.reduceEqDiff, Nat.reduceAdd, Nat.reduceMul, Nat.reduceLT, Nat.reduceBEq, Nat.reduceLeDiff, Nat.reduceSub, List.size_toArray]
  refine ITri.ret ?_; exact EndX.mk (vs := [pt 7]) (by simp) (by rfl) (by rfl) (by rfl)
end Go.Proofs.Ytfmcdbcoljpomaa
