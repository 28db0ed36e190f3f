/-
  Chapter 7 by names: the reference's Best, and the law CropBest.
-/
import Derived.Test.YtlkfcbdbieenhaaCropE5
import Derived.Test.YtlkfcbdbieenhaaCropU1
set_option linter.unusedSimpArgs false
set_option linter.unusedVariables false
namespace Go.Proofs.Ytlkfcbdbieenhaa
open Go.RowKit Go.Vm
set_option maxRecDepth 100000

theorem crp_al {l : List St} {k1 k2 k3 : Int} (hc : checkF l (k1, k2, k3) = 0) : ∀ {cs : List Bl} {f : Int}, crpF (wF l) k1 k2 k3 f cs → ∀ x ∈ cs, alF l k1 k2 x.1 x.2 = true
  | [], _, _, x, hx => by cases hx
  | y :: cs, f, ⟨_, h2, h3⟩, x, hx => by
    have hok := checkF_ok hc
    rcases List.mem_cons.1 hx with rfl | hx
    · exact (val_al hok.2.1 hok.2.2.2.1).symm.trans ((val_okB hok.2.2.2.1).2 h2)
    · exact crp_al hc h3 x hx
theorem crp_sum {l : List St} {k1 k2 k3 : Int} (hc : checkF l (k1, k2, k3) = 0) {cs : List Bl} {f : Int} (h : crpF (wF l) k1 k2 k3 f cs) : rsum l cs = smB (wF l) cs := by
  have hok := checkF_ok hc
  rw [← sumV_rsum hok.2.1 cs (crp_al hc h), sumV_smB hok.2.2.2.1 h]

/-- How a function ends that returns one of its own rows, whose room may be full. -/
theorem end_row {P : Program} {rs : List ResultVar} {l : Fr} {L : List (Option AObj)} {kb : Nat} {b : List Bl} (hk : 2 ≤ kb) (hL : L[kb]? = some (some (inO b))) (hr : resF P l (Hp 2 L) rs = some [slV kb b]) :
    EndR P rs 2 [.cells ⟨rows eII b, 2, true⟩] (.slice (some ⟨2, 0, none⟩) b.length openB) .ret l [] (Hp 2 L) := by
  have ho : ¬ openB < openB := Nat.lt_irrefl _
  by_cases hb : b.length ≤ 1
  · have hC : (Xi.room b.length).ok := roomOK _ (by omega)
    have hx : xiL [(2, Xi.room b.length)] 2 = .room b.length := rfl
    refine ⟨by simp, rfl, [slV kb b], [kb], [(2, .room b.length)], hr, rfl, by simp, by simpa using hk, ?_, ?_, ?_, fun i o2 h => .inr ?_⟩
    · intro p hp
      simp only [List.mem_singleton] at hp
      subst hp
      exact ⟨Nat.le_refl _, hC⟩
    · show slV kb b = mvS (.room b.length) ⟨kb, 0, none⟩ b.length openB
      simp only [mvS, if_neg ho, Nat.sub_self, Nat.sub_zero, slV, capC, if_pos hb]
    · refine ⟨by simp, ?_⟩
      show okS (.room b.length) _ _
      intro _
      rw [Nat.sub_self, Nat.zero_add]
      exact ⟨Nat.le_refl _, by omega⟩
    · match i, h with
      | 0, h =>
        cases h
        refine ⟨(by intro e; rw [Nat.add_zero, hx] at e; cases e), inO b, (by show (Hp 2 L).get kb = _; rw [Hp_get, hL]; rfl), ?_⟩
        refine ⟨(mvL_noAddr _ _ _ (rows_no _)).symm, okML_noAddr _ _ _ (rows_no _), fun e => e, fun e => ?_⟩
        show b.length * 2 ≤ (rows eII b).length
        rw [rows_len]; exact Nat.le_refl _
  · refine ⟨by simp, rfl, [slV kb b], [kb], [], hr, rfl, by simp, by simpa using hk, (fun p hp => by cases hp), ?_, ?_, fun i o2 h => .inr ?_⟩
    · show slV kb b = .slice (some ⟨kb, 0, none⟩) b.length openB
      simp only [slV, capC, if_neg hb]
    · exact ⟨by simp, trivial⟩
    · match i, h with
      | 0, h =>
        cases h
        refine ⟨(by intro e; cases e), inO b, (by show (Hp 2 L).get kb = _; rw [Hp_get, hL]; rfl), ?_⟩
        exact ⟨(mvL_noAddr _ _ _ (rows_no _)).symm, okML_noAddr _ _ _ (rows_no _), fun e => e, fun _ => ⟨decide_eq_true (by omega), rfl⟩⟩

/- boule/bouleref07.Best · slots 72 · names 0:l 1:s 2:l 3:s 5:all 6:best 7:k 8:x 9:y · results [4] -/
def ir17_r0 : IC := .reg [⟨some 3, none, false, .box (.t 1)⟩,
  ⟨some 4, none, false, .mv (.k (.slice none 0 0))⟩] (some [0, 3])
def ir17_r1 : IC := .reg [⟨some 10, none, false, .mv (.t 0)⟩,
  ⟨some 11, none, false, .lda 3 (.t 3)⟩,
  ⟨some 12, none, false, .call (.f 51) [(.t 10), (.t 11), (.k (.int .i64 0))]⟩,
  ⟨some 5, none, false, .mv (.t 12)⟩] (some [0, 5])
def ir17_r2 : IC := .reg [⟨some 13, none, false, .mv (.t 5)⟩,
  ⟨some 14, none, false, .iad 1 (.t 13) (.k (.int .i64 0))⟩,
  ⟨some 15, none, false, .ldc (.t 14)⟩,
  ⟨some 6, none, false, .mv (.t 15)⟩] (some [0, 5, 6])
def ir17_r3 : IC := .reg [⟨some 7, none, false, .mv (.k (.int .i64 1))⟩] (some [0, 5, 6, 7])
def ir17_r4 : IC := .reg [⟨some 16, none, false, .mv (.t 7)⟩,
  ⟨some 17, none, false, .mv (.t 5)⟩,
  ⟨some 18, none, false, .len (.t 17)⟩,
  ⟨some 19, none, false, .cmp .lss (.t 16) (.t 18)⟩] (some [0, 5, 6, 7, 19])
def ir17_1 : IC := .cond (.t 19) .skip (.exit 0)
def ir17_2 : IC := .seq ir17_r4 ir17_1
def ir17_r6 : IC := .reg [⟨some 22, none, false, .mv (.t 0)⟩,
  ⟨some 23, none, false, .mv (.t 5)⟩,
  ⟨some 24, none, false, .mv (.t 7)⟩,
  ⟨some 25, none, false, .iad 1 (.t 23) (.t 24)⟩,
  ⟨some 26, none, false, .ldc (.t 25)⟩,
  ⟨some 27, none, false, .call (.f 19) [(.t 22), (.t 26)]⟩,
  ⟨some 28, none, false, .mv (.t 0)⟩,
  ⟨some 29, none, false, .mv (.t 6)⟩,
  ⟨some 30, none, false, .call (.f 19) [(.t 28), (.t 29)]⟩,
  ⟨some 8, none, false, .mv (.t 27)⟩,
  ⟨some 9, none, false, .mv (.t 30)⟩] (some [0, 5, 6, 7, 8, 9])
def ir17_r7 : IC := .reg [⟨some 31, none, false, .mv (.t 8)⟩,
  ⟨some 32, none, false, .mv (.t 9)⟩,
  ⟨some 33, none, false, .cmp .gtr (.t 31) (.t 32)⟩,
  ⟨some 34, none, false, .mv (.t 33)⟩,
  ⟨some 35, some (34, false), false, .mv (.t 8)⟩,
  ⟨some 36, some (34, false), false, .mv (.t 9)⟩,
  ⟨some 37, some (34, false), false, .cmp .eql (.t 35) (.t 36)⟩,
  ⟨some 38, some (34, false), false, .mv (.t 37)⟩,
  ⟨some 39, some (38, true), false, .mv (.t 5)⟩,
  ⟨some 40, some (38, true), false, .mv (.t 7)⟩,
  ⟨some 41, some (38, true), false, .iad 1 (.t 39) (.t 40)⟩,
  ⟨some 42, some (38, true), false, .ldc (.t 41)⟩,
  ⟨some 43, some (38, true), false, .len (.t 42)⟩,
  ⟨some 44, some (38, true), false, .mv (.t 6)⟩,
  ⟨some 45, some (38, true), false, .len (.t 44)⟩,
  ⟨some 46, some (38, true), false, .cmp .lss (.t 43) (.t 45)⟩,
  ⟨some 47, some (38, true), false, .mv (.t 46)⟩,
  ⟨some 48, some (47, false), false, .mv (.t 5)⟩,
  ⟨some 49, some (47, false), false, .mv (.t 7)⟩,
  ⟨some 50, some (47, false), false, .iad 1 (.t 48) (.t 49)⟩,
  ⟨some 51, some (47, false), false, .ldc (.t 50)⟩,
  ⟨some 52, some (47, false), false, .len (.t 51)⟩,
  ⟨some 53, some (47, false), false, .mv (.t 6)⟩,
  ⟨some 54, some (47, false), false, .len (.t 53)⟩,
  ⟨some 55, some (47, false), false, .cmp .eql (.t 52) (.t 54)⟩,
  ⟨some 56, some (47, false), false, .mv (.t 55)⟩,
  ⟨some 57, some (56, true), false, .mv (.t 5)⟩,
  ⟨some 58, some (56, true), false, .mv (.t 7)⟩,
  ⟨some 59, some (56, true), false, .iad 1 (.t 57) (.t 58)⟩,
  ⟨some 60, some (56, true), false, .ldc (.t 59)⟩,
  ⟨some 61, some (56, true), false, .mv (.t 6)⟩,
  ⟨some 62, some (56, true), false, .call (.f 52) [(.t 60), (.t 61)]⟩,
  ⟨some 63, some (47, false), false, .pick (.t 56) (.t 62) (.k (.bool false))⟩,
  ⟨some 64, some (38, true), false, .pick (.t 47) (.k (.bool true)) (.t 63)⟩,
  ⟨some 65, some (34, false), false, .pick (.t 38) (.t 64) (.k (.bool false))⟩,
  ⟨some 66, none, false, .pick (.t 34) (.k (.bool true)) (.t 65)⟩] (some [0, 5, 6, 7, 66])
def ir17_r8 : IC := .reg [⟨some 67, none, false, .mv (.t 5)⟩,
  ⟨some 68, none, false, .mv (.t 7)⟩,
  ⟨some 69, none, false, .iad 1 (.t 67) (.t 68)⟩,
  ⟨some 70, none, false, .ldc (.t 69)⟩,
  ⟨some 6, none, false, .mv (.t 70)⟩] (some [0, 5, 6, 7])
def ir17_3 : IC := .cond (.t 66) ir17_r8 .skip
def ir17_4 : IC := .seq ir17_r7 ir17_3
def ir17_5 : IC := .seq ir17_r6 ir17_4
def ir17_6 : IC := .block 1 ir17_5
def ir17_r5 : IC := .reg [⟨some 20, none, false, .mv (.t 7)⟩,
  ⟨some 21, none, false, .ar .add (.t 20) (.k (.int .i64 1))⟩,
  ⟨some 7, none, false, .mv (.t 21)⟩] (some [0, 5, 6, 7])
def ir17_7 : IC := .seq ir17_6 ir17_r5
def ir17_8 : IC := .seq ir17_2 ir17_7
def ir17_9 : IC := .loop ir17_8
def ir17_10 : IC := .block 0 ir17_9
def ir17_11 : IC := .seq ir17_r3 ir17_10
def ir17_r9 : IC := .reg [⟨some 71, none, false, .mv (.t 6)⟩,
  ⟨some 4, none, false, .mv (.t 71)⟩] (some [4])
def ir17_12 : IC := .seq ir17_r9 .ret
def ir17_13 : IC := .seq ir17_11 ir17_12
def ir17_14 : IC := .seq ir17_r2 ir17_13
def ir17_15 : IC := .seq ir17_r1 ir17_14
def ir17_16 : IC := .seq ir17_r0 ir17_15
def ir17 : IC := ir17_16
theorem fn17 : FnIs Try.prog 17 ir17 72 [.tmp 4] := ⟨Try.f17, Try.f17.body.getD .skip, Try.func17, by kernel_rfl, by kernel_rfl, by kernel_rfl, by kernel_rfl⟩
set_option maxHeartbeats 1000000 in
theorem refBest_c (n c : Nat) (l : List St) (k1 k2 k3 : Int) (hn : l.length = n) (hc : checkF l (k1, k2, k3) = 0) (hl : lenF l ≤ 11) :
    Fc Try.prog 17 [s1 n c, sawV k1 k2 k3] (Hp 2 [none, some (.cells ⟨rows eII l, 0, false⟩)]) (.slice (some ⟨2, 0, none⟩) (bestL l k1 k2 k3).length openB) ((Hp 2 [none, some (.cells ⟨rows eII l, 0, false⟩)]).news [.cells ⟨rows eII (bestL l k1 k2 k3), 2, true⟩]) := by
  have hok := checkF_ok hc
  have hb : n ≤ 1000 := by omega
  have hmem : ∀ x ∈ kpN l k1 k2 k3 11 0, crpF (wF l) k1 k2 k3 0 x ∧ x.length ≤ 11 := fun x hx => ⟨(kpN_mem hc 11 0 x (by omega) (by omega)).1 hx, kpN_depth 11 0 x hx⟩
  have hbest := fun b0 xs => best_all hc (d := 11) (by omega) (b0 := b0) (xs := xs)
  have hsm := kpN_small hc hl 11 (f := 0) (by omega)
  refine Fc.introR fn17 (by simp) rfl rfl ?_; simp only [argF]
  refine ITri.seq ?_
  refine ITri.reg pok ?_; simp -implicitDefEqProofs (disch := first | decide | exact of_eq_true (eq_true rfl) | omega | assumption) only [ ↓vcD, vcE, evs, evP, evB, intsOf, fillC, Value.cells, pt, List.append_nil, List.nil_append, List.cons_append, List.length_cons, List.length_nil, List.filter_nil, List.map_nil, ↓List.getElem?_cons_zero, ↓List.getElem?_cons_succ, List.getElem?_cons_zero, List.getElem?_cons_succ, List.set_cons_zero, List.set_cons_succ, Option.join_some, Option.join_none, Option.map_some, List.all_cons, List.all_nil, Value.oneCell', reduceIte, reduceCtorEq, Nat.reduceEqDiff, Nat.reduceAdd, Nat.reduceMul, Nat.reduceLT, Nat.reduceBEq, Nat.reduceLeDiff, Nat.reduceSub, List.size_toArray] -- r0 ref.go:112
  refine ITri.seq ?_
  refine ITri.reg pok ?_; simp -implicitDefEqProofs (disch := first | decide | exact of_eq_true (eq_true rfl) | omega | assumption) only [ ↓vcD, vcE, evs, evP, evB, intsOf, fillC, Value.cells, pt, List.append_nil, List.nil_append, List.cons_append, List.length_cons, List.length_nil, List.filter_nil, List.map_nil, ↓List.getElem?_cons_zero, ↓List.getElem?_cons_succ, List.getElem?_cons_zero, List.getElem?_cons_succ, List.set_cons_zero, List.set_cons_succ, Option.join_some, Option.join_none, Option.map_some, List.all_cons, List.all_nil, Value.oneCell', reduceIte, reduceCtorEq, Nat.reduceEqDiff, Nat.reduceAdd, Nat.reduceMul, Nat.reduceLT, Nat.reduceBEq, Nat.reduceLeDiff, Nat.reduceSub, List.size_toArray] -- r1 ref.go:113 CALLS .call F51 [%10, %11, 0]
  refine ⟨_, _, crop_f n l k1 k2 k3 hn hc hl 11 0 (by omega) (by omega) (by omega) (by omega) (sees0 rfl (of_decide_eq_true rfl)) (Rd.hq rfl rfl), ?_⟩
  simp -implicitDefEqProofs (disch := first | decide | exact of_eq_true (eq_true rfl) | omega | assumption) only [Hq_news,  ↓vcD, vcE, evs, evP, evB, intsOf, fillC, Value.cells, pt, List.append_nil, List.nil_append, List.cons_append, List.length_cons, List.length_nil, List.filter_nil, List.map_nil, ↓List.getElem?_cons_zero, ↓List.getElem?_cons_succ, List.getElem?_cons_zero, List.getElem?_cons_succ, List.set_cons_zero, List.set_cons_succ, Option.join_some, Option.join_none, Option.map_some, List.all_cons, List.all_nil, Value.oneCell', reduceIte, reduceCtorEq, Nat.reduceEqDiff, Nat.reduceAdd, Nat.reduceMul, Nat.reduceLT, Nat.reduceBEq, Nat.reduceLeDiff, Nat.reduceSub, List.size_toArray]
  have RS := crO_rs [none, some (.cells ⟨rows eII l, 0, false⟩), some (.cells ⟨[.int .i64 k1, .int .i64 k2, .int .i64 k3], 1, false⟩)] (kpN l k1 k2 k3 11 0)
  simp only [List.length_cons, List.length_nil, Nat.zero_add, Nat.reduceAdd, List.cons_append, List.nil_append] at RS
  have h1 : (none :: some (.cells ⟨rows eII l, 0, false⟩) :: some (.cells ⟨[.int .i64 k1, .int .i64 k2, .int .i64 k3], 1, false⟩) :: (crO 3 (kpN l k1 k2 k3 11 0)).map some)[1]? = some (some (.cells ⟨rows eII l, 0, false⟩)) := rfl
  generalize (none :: some (.cells ⟨rows eII l, 0, false⟩) :: some (.cells ⟨[.int .i64 k1, .int .i64 k2, .int .i64 k3], 1, false⟩) :: (crO 3 (kpN l k1 k2 k3 11 0)).map some) = L at *
  have hne : kpN l k1 k2 k3 11 0 ≠ [] := by simp [kpN, kpA]
  generalize kpN l k1 k2 k3 11 0 = xs at *
  obtain ⟨b0, hb0, hF⟩ : ∃ b0, xs[0]? = some b0 ∧ (xs.drop 1).foldl (fun b x => upB (wF l) x b) b0 = bestL l k1 k2 k3 := by
    cases xs with
    | nil => exact absurd rfl hne
    | cons b0 rest => exact ⟨b0, rfl, hbest b0 rest rfl⟩
  clear hbest hne
  have hm1 : 0 < xs.length := (List.getElem?_eq_some_iff.1 hb0).1
  have hj1 : (L[1]?).join = some (.cells ⟨rows eII l, 0, false⟩) := by rw [h1]; rfl
  have hL0 : 0 < L.length := by have := (List.getElem?_eq_some_iff.1 h1).1; omega
  have hout : L[3 + xs.length]? = some (some (.cells ⟨slK (List.range' 3 xs.length) xs, 1, decide (2 ≤ xs.length)⟩)) := RS.out
  have hget : ∀ {i x}, xs[i]? = some x → (slK (List.range' 3 xs.length) xs)[i]? = some (slV (3 + i) x) := fun {i x} h => slK_get (by rw [List.getElem?_range' (List.getElem?_eq_some_iff.1 h).1, Nat.one_mul]) h
  have hinn : ∀ {i x}, xs[i]? = some x → L[3 + i]? = some (some (inO x)) := fun {i x} h => by
    obtain ⟨h2, h3⟩ := List.getElem?_eq_some_iff.1 h
    rw [RS.inn i h2, h3]
  have hrd : ∀ {i x}, xs[i]? = some x → Rd (Hp 2 L) (slV (3 + i) x) x.length (rows eII x) := fun {i x} h => Rd.hq rfl (by rw [hinn h]; rfl)
  have htot : ∀ {i x}, xs[i]? = some x → Fc Try.prog 19 [s1 n c, slV (3 + i) x] (Hp 2 L) (.int .i64 (rsum l x)) (Hp 2 L) ∧ rsum l x = smB (wF l) x := fun {i x} h => by
    have hm := hmem x (List.mem_of_getElem? h)
    exact ⟨refTotal_f n l k1 k2 x.length x hn hb hok.2.1 (by omega) rfl (by omega) (crp_al hc hm.1) (by omega) (sees0 rfl hL0) (Rd.hq rfl hj1) (hrd h), crp_sum hc hm.1⟩
  have hlV : ∀ k (x : List Bl), slV k x = .slice (some ⟨k, 0, none⟩) x.length (capC x.length) := fun _ _ => rfl
  have hoV : ouV (3 + xs.length) xs = .slice (some ⟨3 + xs.length, 0, none⟩) xs.length (capC xs.length) := rfl
  have h00 : (0 : Int) < xs.length := by omega
  rw [hoV]
  refine ITri.seq ?_
  refine ITri.reg pok ?_; simp -implicitDefEqProofs (disch := first | decide | exact of_eq_true (eq_true rfl) | omega | assumption) only [hout, hget hb0, Int.toNat_zero, Nat.zero_mul,  ↓vcD, vcE, evs, evP, evB, intsOf, fillC, Value.cells, pt, List.append_nil, List.nil_append, List.cons_append, List.length_cons, List.length_nil, List.filter_nil, List.map_nil, ↓List.getElem?_cons_zero, ↓List.getElem?_cons_succ, List.getElem?_cons_zero, List.getElem?_cons_succ, List.set_cons_zero, List.set_cons_succ, Option.join_some, Option.join_none, Option.map_some, List.all_cons, List.all_nil, Value.oneCell', reduceIte, reduceCtorEq, Nat.reduceEqDiff, Nat.reduceAdd, Nat.reduceMul, Nat.reduceLT, Nat.reduceBEq, Nat.reduceLeDiff, Nat.reduceSub, List.size_toArray] -- r2 ref.go:114
  refine ITri.seq ?_
  refine ITri.seq ?_
  refine ITri.reg pok ?_; simp -implicitDefEqProofs (disch := first | decide | exact of_eq_true (eq_true rfl) | omega | assumption) only [ ↓vcD, vcE, evs, evP, evB, intsOf, fillC, Value.cells, pt, List.append_nil, List.nil_append, List.cons_append, List.length_cons, List.length_nil, List.filter_nil, List.map_nil, ↓List.getElem?_cons_zero, ↓List.getElem?_cons_succ, List.getElem?_cons_zero, List.getElem?_cons_succ, List.set_cons_zero, List.set_cons_succ, Option.join_some, Option.join_none, Option.map_some, List.all_cons, List.all_nil, Value.oneCell', reduceIte, reduceCtorEq, Nat.reduceEqDiff, Nat.reduceAdd, Nat.reduceMul, Nat.reduceLT, Nat.reduceBEq, Nat.reduceLeDiff, Nat.reduceSub, List.size_toArray] -- r3 ref.go:115
  refine ITri.block ?_ -- 0
  refine ITri.loop (fun q : Nat × Nat × List Bl => [(0, s1 n c), (5, .slice (some ⟨3 + xs.length, 0, none⟩) xs.length (capC xs.length)), (6, slV (3 + q.2.1) q.2.2), (7, .int .i64 q.1)]) (fun _ => []) (fun _ => Hp 2 L) (fun q => q.1 ≤ xs.length ∧ xs[q.2.1]? = some q.2.2 ∧ (xs.drop q.1).foldl (fun b x => upB (wF l) x b) q.2.2 = bestL l k1 k2 k3) (fun q => xs.length - q.1) (1, 0, b0) ⟨hm1, hb0, hF⟩ (Wk.sub ⟨rfl, rfl, rfl, rfl, trivial⟩) fun q hq => ?_
  obtain ⟨k, kb, b⟩ := q
  obtain ⟨hk, hkb, hF⟩ := hq
  simp only at hk hkb hF ⊢
  refine ITri.seq ?_
  refine ITri.seq ?_
  refine ITri.reg pok ?_; simp -implicitDefEqProofs (disch := first | decide | exact of_eq_true (eq_true rfl) | omega | assumption) only [ ↓vcD, vcE, evs, evP, evB, intsOf, fillC, Value.cells, pt, List.append_nil, List.nil_append, List.cons_append, List.length_cons, List.length_nil, List.filter_nil, List.map_nil, ↓List.getElem?_cons_zero, ↓List.getElem?_cons_succ, List.getElem?_cons_zero, List.getElem?_cons_succ, List.set_cons_zero, List.set_cons_succ, Option.join_some, Option.join_none, Option.map_some, List.all_cons, List.all_nil, Value.oneCell', reduceIte, reduceCtorEq, Nat.reduceEqDiff, Nat.reduceAdd, Nat.reduceMul, Nat.reduceLT, Nat.reduceBEq, Nat.reduceLeDiff, Nat.reduceSub, List.size_toArray] -- r4 ref.go:115
  refine ITri.condD (by rfl) (fun h2 => ?_) (fun h2 => ?_) -- %19
  rotate_left
  · refine ITri.exit ?_; try simp -implicitDefEqProofs (disch := first | decide | exact of_eq_true (eq_true rfl) | omega | assumption) only [ ↓vcD, vcE, evs, evP, evB, intsOf, fillC, Value.cells, pt, List.append_nil, List.nil_append, List.cons_append, List.length_cons, List.length_nil, List.filter_nil, List.map_nil, ↓List.getElem?_cons_zero, ↓List.getElem?_cons_succ, List.getElem?_cons_zero, List.getElem?_cons_succ, List.set_cons_zero, List.set_cons_succ, Option.join_some, Option.join_none, Option.map_some, List.all_cons, List.all_nil, Value.oneCell', reduceIte, reduceCtorEq, Nat.reduceEqDiff, Nat.reduceAdd, Nat.reduceMul, Nat.reduceLT, Nat.reduceBEq, Nat.reduceLeDiff, Nat.reduceSub, List.size_toArray]
    refine ITri.seq ?_
    refine ITri.reg pok ?_; simp -implicitDefEqProofs (disch := first | decide | exact of_eq_true (eq_true rfl) | omega | assumption) only [ ↓vcD, vcE, evs, evP, evB, intsOf, fillC, Value.cells, pt, List.append_nil, List.nil_append, List.cons_append, List.length_cons, List.length_nil, List.filter_nil, List.map_nil, ↓List.getElem?_cons_zero, ↓List.getElem?_cons_succ, List.getElem?_cons_zero, List.getElem?_cons_succ, List.set_cons_zero, List.set_cons_succ, Option.join_some, Option.join_none, Option.map_some, List.all_cons, List.all_nil, Value.oneCell', reduceIte, reduceCtorEq, Nat.reduceEqDiff, Nat.reduceAdd, Nat.reduceMul, Nat.reduceLT, Nat.reduceBEq, Nat.reduceLeDiff, Nat.reduceSub, List.size_toArray] -- r9 ref.go:121
    rw [List.drop_of_length_le (by omega)] at hF
    simp only [List.foldl_nil] at hF
    subst hF
    refine ITri.ret ?_
    exact end_row (by omega) (hinn hkb) rfl
  refine ITri.skip ?_; simp only [SeqQ_normal, BlkQ_normal]
  obtain ⟨x, hx⟩ : ∃ x, xs[k]? = some x := ⟨_, List.getElem?_eq_getElem (show k < xs.length by omega)⟩
  have hdr : xs.drop k = x :: xs.drop (k + 1) := by
    obtain ⟨q1, q2⟩ := List.getElem?_eq_some_iff.1 hx
    rw [List.drop_eq_getElem_cons q1, q2]
  rw [hdr, List.foldl_cons] at hF
  obtain ⟨T1, T2⟩ := htot hx
  obtain ⟨T3, T4⟩ := htot hkb
  have hsb : sbB (wF l) x b ↔ rsum l b < rsum l x ∨ (rsum l x = rsum l b ∧ (x.length < b.length ∨ (x.length = b.length ∧ lexL x b = true))) := by rw [T2, T4]; rfl
  have hyes : sbB (wF l) x b → (xs.drop (k + 1)).foldl (fun b x => upB (wF l) x b) x = bestL l k1 k2 k3 := fun h => by
    rw [show upB (wF l) x b = x from if_pos h] at hF
    exact hF
  have hnon : ¬ sbB (wF l) x b → (xs.drop (k + 1)).foldl (fun b x => upB (wF l) x b) b = bestL l k1 k2 k3 := fun h => by
    rw [show upB (wF l) x b = b from if_neg h] at hF
    exact hF
  refine ITri.seq ?_
  refine ITri.cut (fun q : Nat × List Bl => [(0, s1 n c), (5, .slice (some ⟨3 + xs.length, 0, none⟩) xs.length (capC xs.length)), (6, slV (3 + q.1) q.2), (7, .int .i64 k)]) (fun _ => []) (fun _ => Hp 2 L) (fun q => xs[q.1]? = some q.2 ∧ (xs.drop (k + 1)).foldl (fun b x => upB (wF l) x b) q.2 = bestL l k1 k2 k3) ?_ (fun q hq => ?_)
  rotate_left
  · obtain ⟨kb, b⟩ := q
    simp only at hq ⊢
    refine ITri.reg pok ?_; simp -implicitDefEqProofs (disch := first | decide | exact of_eq_true (eq_true rfl) | omega | assumption) only [ ↓vcD, vcE, evs, evP, evB, intsOf, fillC, Value.cells, pt, List.append_nil, List.nil_append, List.cons_append, List.length_cons, List.length_nil, List.filter_nil, List.map_nil, ↓List.getElem?_cons_zero, ↓List.getElem?_cons_succ, List.getElem?_cons_zero, List.getElem?_cons_succ, List.set_cons_zero, List.set_cons_succ, Option.join_some, Option.join_none, Option.map_some, List.all_cons, List.all_nil, Value.oneCell', reduceIte, reduceCtorEq, Nat.reduceEqDiff, Nat.reduceAdd, Nat.reduceMul, Nat.reduceLT, Nat.reduceBEq, Nat.reduceLeDiff, Nat.reduceSub, List.size_toArray] -- r5 ref.go:115
    exact LoopQ.next (k + 1, kb, b) ⟨by simp only; omega, hq.1, hq.2⟩ (by simp only; omega) (Wk.sub ⟨rfl, rfl, rfl, rfl, trivial⟩)
  refine ITri.block ?_ -- 1
  refine ITri.seq ?_
  refine ITri.reg pok ?_; simp -implicitDefEqProofs (disch := first | decide | exact of_eq_true (eq_true rfl) | omega | assumption) only [hout, hget hx,  ↓vcD, vcE, evs, evP, evB, intsOf, fillC, Value.cells, pt, List.append_nil, List.nil_append, List.cons_append, List.length_cons, List.length_nil, List.filter_nil, List.map_nil, ↓List.getElem?_cons_zero, ↓List.getElem?_cons_succ, List.getElem?_cons_zero, List.getElem?_cons_succ, List.set_cons_zero, List.set_cons_succ, Option.join_some, Option.join_none, Option.map_some, List.all_cons, List.all_nil, Value.oneCell', reduceIte, reduceCtorEq, Nat.reduceEqDiff, Nat.reduceAdd, Nat.reduceMul, Nat.reduceLT, Nat.reduceBEq, Nat.reduceLeDiff, Nat.reduceSub, List.size_toArray] -- r6
  refine ⟨_, _, T1, ?_⟩
  try simp -implicitDefEqProofs (disch := first | decide | exact of_eq_true (eq_true rfl) | omega | assumption) only [ ↓vcD, vcE, evs, evP, evB, intsOf, fillC, Value.cells, pt, List.append_nil, List.nil_append, List.cons_append, List.length_cons, List.length_nil, List.filter_nil, List.map_nil, ↓List.getElem?_cons_zero, ↓List.getElem?_cons_succ, List.getElem?_cons_zero, List.getElem?_cons_succ, List.set_cons_zero, List.set_cons_succ, Option.join_some, Option.join_none, Option.map_some, List.all_cons, List.all_nil, Value.oneCell', reduceIte, reduceCtorEq, Nat.reduceEqDiff, Nat.reduceAdd, Nat.reduceMul, Nat.reduceLT, Nat.reduceBEq, Nat.reduceLeDiff, Nat.reduceSub, List.size_toArray]
  refine ⟨_, _, T3, ?_⟩
  try simp -implicitDefEqProofs (disch := first | decide | exact of_eq_true (eq_true rfl) | omega | assumption) only [ ↓vcD, vcE, evs, evP, evB, intsOf, fillC, Value.cells, pt, List.append_nil, List.nil_append, List.cons_append, List.length_cons, List.length_nil, List.filter_nil, List.map_nil, ↓List.getElem?_cons_zero, ↓List.getElem?_cons_succ, List.getElem?_cons_zero, List.getElem?_cons_succ, List.set_cons_zero, List.set_cons_succ, Option.join_some, Option.join_none, Option.map_some, List.all_cons, List.all_nil, Value.oneCell', reduceIte, reduceCtorEq, Nat.reduceEqDiff, Nat.reduceAdd, Nat.reduceMul, Nat.reduceLT, Nat.reduceBEq, Nat.reduceLeDiff, Nat.reduceSub, List.size_toArray]
  refine ITri.seq ?_
  by_cases c1 : rsum l b < rsum l x
  · refine ITri.reg pok ?_; simp -implicitDefEqProofs (disch := first | decide | exact of_eq_true (eq_true rfl) | omega | assumption) only [hout, hget hx, c1, decide_true,  ↓vcD, vcE, evs, evP, evB, intsOf, fillC, Value.cells, pt, List.append_nil, List.nil_append, List.cons_append, List.length_cons, List.length_nil, List.filter_nil, List.map_nil, ↓List.getElem?_cons_zero, ↓List.getElem?_cons_succ, List.getElem?_cons_zero, List.getElem?_cons_succ, List.set_cons_zero, List.set_cons_succ, Option.join_some, Option.join_none, Option.map_some, List.all_cons, List.all_nil, Value.oneCell', reduceIte, reduceCtorEq, Nat.reduceEqDiff, Nat.reduceAdd, Nat.reduceMul, Nat.reduceLT, Nat.reduceBEq, Nat.reduceLeDiff, Nat.reduceSub, List.size_toArray]
    refine ITri.cond (v := true) rfl (fun _ => ?_) (fun h => by cases h)
    refine ITri.reg pok ?_; simp -implicitDefEqProofs (disch := first | decide | exact of_eq_true (eq_true rfl) | omega | assumption) only [hout, hget hx,  ↓vcD, vcE, evs, evP, evB, intsOf, fillC, Value.cells, pt, List.append_nil, List.nil_append, List.cons_append, List.length_cons, List.length_nil, List.filter_nil, List.map_nil, ↓List.getElem?_cons_zero, ↓List.getElem?_cons_succ, List.getElem?_cons_zero, List.getElem?_cons_succ, List.set_cons_zero, List.set_cons_succ, Option.join_some, Option.join_none, Option.map_some, List.all_cons, List.all_nil, Value.oneCell', reduceIte, reduceCtorEq, Nat.reduceEqDiff, Nat.reduceAdd, Nat.reduceMul, Nat.reduceLT, Nat.reduceBEq, Nat.reduceLeDiff, Nat.reduceSub, List.size_toArray] -- r8
    exact CutQ.mk (k, x) ⟨hx, hyes (hsb.2 (.inl c1))⟩ (Wk.sub ⟨rfl, rfl, rfl, rfl, trivial⟩)
  by_cases c2 : rsum l x = rsum l b
  rotate_left
  · refine ITri.reg pok ?_; simp -implicitDefEqProofs (disch := first | decide | exact of_eq_true (eq_true rfl) | omega | assumption) only [hout, hget hx, c1, c2, decide_true, decide_false,  ↓vcD, vcE, evs, evP, evB, intsOf, fillC, Value.cells, pt, List.append_nil, List.nil_append, List.cons_append, List.length_cons, List.length_nil, List.filter_nil, List.map_nil, ↓List.getElem?_cons_zero, ↓List.getElem?_cons_succ, List.getElem?_cons_zero, List.getElem?_cons_succ, List.set_cons_zero, List.set_cons_succ, Option.join_some, Option.join_none, Option.map_some, List.all_cons, List.all_nil, Value.oneCell', reduceIte, reduceCtorEq, Nat.reduceEqDiff, Nat.reduceAdd, Nat.reduceMul, Nat.reduceLT, Nat.reduceBEq, Nat.reduceLeDiff, Nat.reduceSub, List.size_toArray]
    refine ITri.cond (v := false) rfl (fun h => by cases h) (fun _ => ?_)
    refine ITri.skip ?_; simp only [SeqQ_normal, BlkQ_normal]
    exact CutQ.mk (kb, b) ⟨hkb, hnon fun h => by rcases hsb.1 h with h | h; exact c1 h; exact c2 h.1⟩ (Wk.sub ⟨rfl, rfl, rfl, rfl, trivial⟩)
  by_cases c3 : (x.length : Int) < b.length
  · refine ITri.reg pok ?_; simp -implicitDefEqProofs (disch := first | decide | exact of_eq_true (eq_true rfl) | omega | assumption) only [hout, hget hx, hlV, c1, c2, c3, Int.lt_irrefl, decide_true, decide_false,  ↓vcD, vcE, evs, evP, evB, intsOf, fillC, Value.cells, pt, List.append_nil, List.nil_append, List.cons_append, List.length_cons, List.length_nil, List.filter_nil, List.map_nil, ↓List.getElem?_cons_zero, ↓List.getElem?_cons_succ, List.getElem?_cons_zero, List.getElem?_cons_succ, List.set_cons_zero, List.set_cons_succ, Option.join_some, Option.join_none, Option.map_some, List.all_cons, List.all_nil, Value.oneCell', reduceIte, reduceCtorEq, Nat.reduceEqDiff, Nat.reduceAdd, Nat.reduceMul, Nat.reduceLT, Nat.reduceBEq, Nat.reduceLeDiff, Nat.reduceSub, List.size_toArray]
    refine ITri.cond (v := true) rfl (fun _ => ?_) (fun h => by cases h)
    refine ITri.reg pok ?_; simp -implicitDefEqProofs (disch := first | decide | exact of_eq_true (eq_true rfl) | omega | assumption) only [hout, hget hx,  ↓vcD, vcE, evs, evP, evB, intsOf, fillC, Value.cells, pt, List.append_nil, List.nil_append, List.cons_append, List.length_cons, List.length_nil, List.filter_nil, List.map_nil, ↓List.getElem?_cons_zero, ↓List.getElem?_cons_succ, List.getElem?_cons_zero, List.getElem?_cons_succ, List.set_cons_zero, List.set_cons_succ, Option.join_some, Option.join_none, Option.map_some, List.all_cons, List.all_nil, Value.oneCell', reduceIte, reduceCtorEq, Nat.reduceEqDiff, Nat.reduceAdd, Nat.reduceMul, Nat.reduceLT, Nat.reduceBEq, Nat.reduceLeDiff, Nat.reduceSub, List.size_toArray] -- r8
    exact CutQ.mk (k, x) ⟨hx, hyes (hsb.2 (.inr ⟨c2, .inl (by omega)⟩))⟩ (Wk.sub ⟨rfl, rfl, rfl, rfl, trivial⟩)
  by_cases c4 : (x.length : Int) = b.length
  rotate_left
  · refine ITri.reg pok ?_; simp -implicitDefEqProofs (disch := first | decide | exact of_eq_true (eq_true rfl) | omega | assumption) only [hout, hget hx, hlV, c1, c2, c3, c4, Int.lt_irrefl, decide_true, decide_false,  ↓vcD, vcE, evs, evP, evB, intsOf, fillC, Value.cells, pt, List.append_nil, List.nil_append, List.cons_append, List.length_cons, List.length_nil, List.filter_nil, List.map_nil, ↓List.getElem?_cons_zero, ↓List.getElem?_cons_succ, List.getElem?_cons_zero, List.getElem?_cons_succ, List.set_cons_zero, List.set_cons_succ, Option.join_some, Option.join_none, Option.map_some, List.all_cons, List.all_nil, Value.oneCell', reduceIte, reduceCtorEq, Nat.reduceEqDiff, Nat.reduceAdd, Nat.reduceMul, Nat.reduceLT, Nat.reduceBEq, Nat.reduceLeDiff, Nat.reduceSub, List.size_toArray]
    refine ITri.cond (v := false) rfl (fun h => by cases h) (fun _ => ?_)
    refine ITri.skip ?_; simp only [SeqQ_normal, BlkQ_normal]
    exact CutQ.mk (kb, b) ⟨hkb, hnon fun h => by rcases hsb.1 h with h | ⟨_, h | h⟩; exact c1 h; exact c3 (by omega); exact c4 (by omega)⟩ (Wk.sub ⟨rfl, rfl, rfl, rfl, trivial⟩)
  have T5 := less_f x.length b.length x b rfl rfl (by have := (hmem x (List.mem_of_getElem? hx)).2; omega) (sees0 (wl := 2) (hid := []) rfl hL0) (hrd hx) (hrd hkb)
  refine ITri.reg pok ?_; simp -implicitDefEqProofs (disch := first | decide | exact of_eq_true (eq_true rfl) | omega | assumption) only [hout, hget hx, hlV, c1, c2, c3, c4, Int.lt_irrefl, decide_true, decide_false,  ↓vcD, vcE, evs, evP, evB, intsOf, fillC, Value.cells, pt, List.append_nil, List.nil_append, List.cons_append, List.length_cons, List.length_nil, List.filter_nil, List.map_nil, ↓List.getElem?_cons_zero, ↓List.getElem?_cons_succ, List.getElem?_cons_zero, List.getElem?_cons_succ, List.set_cons_zero, List.set_cons_succ, Option.join_some, Option.join_none, Option.map_some, List.all_cons, List.all_nil, Value.oneCell', reduceIte, reduceCtorEq, Nat.reduceEqDiff, Nat.reduceAdd, Nat.reduceMul, Nat.reduceLT, Nat.reduceBEq, Nat.reduceLeDiff, Nat.reduceSub, List.size_toArray]
  refine ⟨_, _, T5, ?_⟩
  try simp -implicitDefEqProofs (disch := first | decide | exact of_eq_true (eq_true rfl) | omega | assumption) only [ ↓vcD, vcE, evs, evP, evB, intsOf, fillC, Value.cells, pt, List.append_nil, List.nil_append, List.cons_append, List.length_cons, List.length_nil, List.filter_nil, List.map_nil, ↓List.getElem?_cons_zero, ↓List.getElem?_cons_succ, List.getElem?_cons_zero, List.getElem?_cons_succ, List.set_cons_zero, List.set_cons_succ, Option.join_some, Option.join_none, Option.map_some, List.all_cons, List.all_nil, Value.oneCell', reduceIte, reduceCtorEq, Nat.reduceEqDiff, Nat.reduceAdd, Nat.reduceMul, Nat.reduceLT, Nat.reduceBEq, Nat.reduceLeDiff, Nat.reduceSub, List.size_toArray]
  refine ITri.cond (by rfl) (fun h5 => ?_) (fun h5 => ?_)
  · refine ITri.reg pok ?_; simp -implicitDefEqProofs (disch := first | decide | exact of_eq_true (eq_true rfl) | omega | assumption) only [hout, hget hx,  ↓vcD, vcE, evs, evP, evB, intsOf, fillC, Value.cells, pt, List.append_nil, List.nil_append, List.cons_append, List.length_cons, List.length_nil, List.filter_nil, List.map_nil, ↓List.getElem?_cons_zero, ↓List.getElem?_cons_succ, List.getElem?_cons_zero, List.getElem?_cons_succ, List.set_cons_zero, List.set_cons_succ, Option.join_some, Option.join_none, Option.map_some, List.all_cons, List.all_nil, Value.oneCell', reduceIte, reduceCtorEq, Nat.reduceEqDiff, Nat.reduceAdd, Nat.reduceMul, Nat.reduceLT, Nat.reduceBEq, Nat.reduceLeDiff, Nat.reduceSub, List.size_toArray] -- r8
    exact CutQ.mk (k, x) ⟨hx, hyes (hsb.2 (.inr ⟨c2, .inr ⟨by omega, h5⟩⟩))⟩ (Wk.sub ⟨rfl, rfl, rfl, rfl, trivial⟩)
  refine ITri.skip ?_; simp only [SeqQ_normal, BlkQ_normal]
  exact CutQ.mk (kb, b) ⟨hkb, hnon fun h => by rcases hsb.1 h with h | ⟨_, h | h⟩; exact c1 h; exact c3 (by omega); rw [h5] at h; cases h.2⟩ (Wk.sub ⟨rfl, rfl, rfl, rfl, trivial⟩)

theorem refBest_f (n : Nat) (l : List St) (k1 k2 k3 : Int) (hn : l.length = n) (hc : checkF l (k1, k2, k3) = 0) (hl : lenF l ≤ 11) {h : AH} {s : Value} (h0 : h.sees 0 = true) (r : Rd h s n (rows eII l)) :
    Fc Try.prog 17 [s, sawV k1 k2 k3] h (.slice (some ⟨h.next, 0, none⟩) (bestL l k1 k2 k3).length openB) (h.new (.cells ⟨rows eII (bestL l k1 k2 k3), 2, true⟩)) :=
  Fc.lift1 (mk := fun ss => ss ++ [sawV k1 k2 k3]) (mkv := fun ss => ss.headD undef) (os := [((bestL l k1 k2 k3).length, rows eII (bestL l k1 k2 k3), 2)]) (fun c => by
    have := refBest_c n c l k1 k2 k3 hn hc hl
    rw [Hq_news] at this
    exact this) (MkL.app rfl) MkV.one (rows_no (f := eII) l) (fun o ho => by
    simp only [List.mem_singleton] at ho
    subst ho
    exact rows_no (f := eII) _) h0 r

/- boule/boulelaw07.CropBest · slots 73 · names 0:l 1:s 2:l 3:s 5:best 6:total 7:e 8:want 9:want · results [4] -/
def ir3_r0 : IC := .reg [⟨some 3, none, false, .box (.t 1)⟩,
  ⟨some 4, none, false, .mv (.k (.bool false))⟩] (some [0, 3])
def ir3_r1 : IC := .reg [⟨some 10, none, false, .mv (.t 0)⟩,
  ⟨some 11, none, false, .len (.t 10)⟩,
  ⟨some 12, none, false, .cmp .gtr (.t 11) (.k (.int .i64 70))⟩,
  ⟨some 13, none, false, .mv (.t 12)⟩,
  ⟨some 14, some (13, false), false, .mv (.t 0)⟩,
  ⟨some 15, some (13, false), false, .lda 3 (.t 3)⟩,
  ⟨some 16, some (13, false), false, .call (.f 12) [(.t 14), (.t 15)]⟩,
  ⟨some 17, some (13, false), false, .cmp .eql (.t 16) (.k (.int .i64 0))⟩,
  ⟨some 18, some (13, false), false, .mv (.t 17)⟩,
  ⟨some 19, some (18, true), false, .mv (.t 0)⟩,
  ⟨some 20, some (18, true), false, .call (.f 13) [(.t 19)]⟩,
  ⟨some 21, some (18, true), false, .cmp .gtr (.t 20) (.k (.int .i64 11))⟩,
  ⟨some 22, some (13, false), false, .pick (.t 18) (.t 21) (.k (.bool false))⟩,
  ⟨some 23, none, false, .pick (.t 13) (.k (.bool true)) (.t 22)⟩] (some [0, 3, 23])
def ir3_r2 : IC := .reg [⟨some 24, none, false, .call (.f 14) []⟩,
  ⟨some 4, none, false, .mv (.t 24)⟩] (some [4])
def ir3_1 : IC := .seq ir3_r2 .ret
def ir3_2 : IC := .cond (.t 23) ir3_1 .skip
def ir3_3 : IC := .seq ir3_r1 ir3_2
def ir3_r3 : IC := .draw [(⟨some 26, none, false, .mv (.t 0)⟩, false, 0, 0),
  (⟨some 27, none, false, .call (.f 16) [(.t 26)]⟩, false, 1, 1),
  (⟨some 28, none, false, .lda 3 (.t 3)⟩, false, 0, 2),
  (⟨some 29, none, false, .call (.f 15) [(.t 27), (.t 28)]⟩, true, 7, 1),
  (⟨some 25, none, false, .mv (.t 29)⟩, false, 15, 0),
  (⟨some 30, none, false, .ext (.t 25) 0⟩, false, 31, 0),
  (⟨some 31, none, false, .ext (.t 25) 1⟩, false, 31, 0),
  (⟨some 32, none, false, .ext (.t 25) 2⟩, false, 31, 0),
  (⟨some 5, none, false, .mv (.t 30)⟩, false, 63, 0),
  (⟨some 6, none, false, .mv (.t 31)⟩, false, 383, 0),
  (⟨some 7, none, false, .mv (.t 32)⟩, false, 1023, 0)] (some [0, 3, 5, 6, 7])
def ir3_r4 : IC := .reg [⟨some 33, none, false, .mv (.t 0)⟩,
  ⟨some 34, none, false, .lda 3 (.t 3)⟩,
  ⟨some 35, none, false, .call (.f 12) [(.t 33), (.t 34)]⟩,
  ⟨some 8, none, false, .mv (.t 35)⟩] (some [0, 3, 5, 6, 7, 8])
def ir3_r5 : IC := .reg [⟨some 36, none, false, .mv (.t 8)⟩,
  ⟨some 37, none, false, .cmp .neq (.t 36) (.k (.int .i64 0))⟩] (some [0, 3, 5, 6, 7, 8, 37])
def ir3_r6 : IC := .reg [⟨some 38, none, false, .mv (.t 7)⟩,
  ⟨some 39, none, false, .mv (.t 8)⟩,
  ⟨some 40, none, false, .cmp .eql (.t 38) (.t 39)⟩,
  ⟨some 41, none, false, .mv (.t 40)⟩,
  ⟨some 42, some (41, true), false, .mv (.t 5)⟩,
  ⟨some 43, some (41, true), false, .len (.t 42)⟩,
  ⟨some 44, some (41, true), false, .cmp .eql (.t 43) (.k (.int .i64 0))⟩,
  ⟨some 45, none, false, .pick (.t 41) (.t 44) (.k (.bool false))⟩,
  ⟨some 46, none, false, .mv (.t 45)⟩,
  ⟨some 47, some (46, true), false, .mv (.t 6)⟩,
  ⟨some 48, some (46, true), false, .cmp .eql (.t 47) (.k (.int .i64 0))⟩,
  ⟨some 49, none, false, .pick (.t 46) (.t 48) (.k (.bool false))⟩,
  ⟨some 50, none, false, .mv (.t 49)⟩,
  ⟨some 51, some (50, true), false, .call (.f 14) []⟩,
  ⟨some 52, none, false, .pick (.t 50) (.t 51) (.k (.bool false))⟩,
  ⟨some 4, none, false, .mv (.t 52)⟩] (some [4])
def ir3_4 : IC := .seq ir3_r6 .ret
def ir3_5 : IC := .cond (.t 37) ir3_4 .skip
def ir3_6 : IC := .seq ir3_r5 ir3_5
def ir3_7 : IC := .seq ir3_r4 ir3_6
def ir3_r7 : IC := .reg [⟨some 53, none, false, .mv (.t 0)⟩,
  ⟨some 54, none, false, .lda 3 (.t 3)⟩,
  ⟨some 55, none, false, .call (.f 17) [(.t 53), (.t 54)]⟩,
  ⟨some 9, none, false, .mv (.t 55)⟩] (some [0, 5, 6, 7, 9])
def ir3_r8 : IC := .reg [⟨some 56, none, false, .mv (.t 7)⟩,
  ⟨some 57, none, false, .cmp .eql (.t 56) (.k (.int .i64 0))⟩,
  ⟨some 58, none, false, .mv (.t 57)⟩,
  ⟨some 59, some (58, true), false, .mv (.t 5)⟩,
  ⟨some 60, some (58, true), false, .mv (.t 9)⟩,
  ⟨some 61, some (58, true), false, .call (.f 18) [(.t 59), (.t 60)]⟩,
  ⟨some 62, none, false, .pick (.t 58) (.t 61) (.k (.bool false))⟩,
  ⟨some 63, none, false, .mv (.t 62)⟩,
  ⟨some 64, some (63, true), false, .mv (.t 6)⟩,
  ⟨some 65, some (63, true), false, .mv (.t 0)⟩,
  ⟨some 66, some (63, true), false, .mv (.t 9)⟩,
  ⟨some 67, some (63, true), false, .call (.f 19) [(.t 65), (.t 66)]⟩,
  ⟨some 68, some (63, true), false, .cmp .eql (.t 64) (.t 67)⟩,
  ⟨some 69, none, false, .pick (.t 63) (.t 68) (.k (.bool false))⟩,
  ⟨some 70, none, false, .mv (.t 69)⟩,
  ⟨some 71, some (70, true), false, .call (.f 14) []⟩,
  ⟨some 72, none, false, .pick (.t 70) (.t 71) (.k (.bool false))⟩,
  ⟨some 4, none, false, .mv (.t 72)⟩] (some [4])
def ir3_8 : IC := .seq ir3_r8 .ret
def ir3_9 : IC := .seq ir3_r7 ir3_8
def ir3_10 : IC := .seq ir3_7 ir3_9
def ir3_11 : IC := .seq ir3_r3 ir3_10
def ir3_12 : IC := .seq ir3_3 ir3_11
def ir3_13 : IC := .seq ir3_r0 ir3_12
def ir3 : IC := ir3_13
theorem fn3 : FnIs Try.prog 3 ir3 73 [.tmp 4] := ⟨Try.f3, Try.f3.body.getD .skip, Try.func3, by kernel_rfl, by kernel_rfl, by kernel_rfl, by kernel_rfl⟩
theorem cbest_c (n c : Nat) (l : List St) (k1 k2 k3 : Int) (hn : l.length = n) :
    Fc Try.prog 3 [s1 n c, sawV k1 k2 k3] (Hp 2 [none, some (.cells ⟨rows eII l, 0, false⟩)]) (.bool true) (Hp 2 [none, some (.cells ⟨rows eII l, 0, false⟩)]) := by
  refine Fc.intro0 fn3 (by simp) rfl rfl ?_; simp only [argF]
  refine ITri.seq ?_
  refine ITri.reg pok ?_; simp -implicitDefEqProofs (disch := first | decide | exact of_eq_true (eq_true rfl) | omega | assumption) only [ ↓vcD, vcE, evs, evP, evB, intsOf, fillC, Value.cells, pt, List.append_nil, List.nil_append, List.cons_append, List.length_cons, List.length_nil, List.filter_nil, List.map_nil, ↓List.getElem?_cons_zero, ↓List.getElem?_cons_succ, List.getElem?_cons_zero, List.getElem?_cons_succ, List.set_cons_zero, List.set_cons_succ, Option.join_some, Option.join_none, Option.map_some, List.all_cons, List.all_nil, Value.oneCell', reduceIte, reduceCtorEq, Nat.reduceEqDiff, Nat.reduceAdd, Nat.reduceMul, Nat.reduceLT, Nat.reduceBEq, Nat.reduceLeDiff, Nat.reduceSub, List.size_toArray] -- r0 law.go:153
  refine ITri.seq ?_
  refine ITri.seq ?_
  by_cases g1 : (70 : Int) < n
  · refine ITri.reg pok ?_; simp -implicitDefEqProofs (disch := first | decide | exact of_eq_true (eq_true rfl) | omega | assumption) only [g1, decide_true,  ↓vcD, vcE, evs, evP, evB, intsOf, fillC, Value.cells, pt, List.append_nil, List.nil_append, List.cons_append, List.length_cons, List.length_nil, List.filter_nil, List.map_nil, ↓List.getElem?_cons_zero, ↓List.getElem?_cons_succ, List.getElem?_cons_zero, List.getElem?_cons_succ, List.set_cons_zero, List.set_cons_succ, Option.join_some, Option.join_none, Option.map_some, List.all_cons, List.all_nil, Value.oneCell', reduceIte, reduceCtorEq, Nat.reduceEqDiff, Nat.reduceAdd, Nat.reduceMul, Nat.reduceLT, Nat.reduceBEq, Nat.reduceLeDiff, Nat.reduceSub, List.size_toArray]
    refine ITri.cond (v := true) rfl (fun _ => ?_) (fun h => by cases h)
    refine ITri.seq ?_
    refine ITri.reg pok ?_; simp -implicitDefEqProofs (disch := first | decide | exact of_eq_true (eq_true rfl) | omega | assumption) only [ ↓vcD, vcE, evs, evP, evB, intsOf, fillC, Value.cells, pt, List.append_nil, List.nil_append, List.cons_append, List.length_cons, List.length_nil, List.filter_nil, List.map_nil, ↓List.getElem?_cons_zero, ↓List.getElem?_cons_succ, List.getElem?_cons_zero, List.getElem?_cons_succ, List.set_cons_zero, List.set_cons_succ, Option.join_some, Option.join_none, Option.map_some, List.all_cons, List.all_nil, Value.oneCell', reduceIte, reduceCtorEq, Nat.reduceEqDiff, Nat.reduceAdd, Nat.reduceMul, Nat.reduceLT, Nat.reduceBEq, Nat.reduceLeDiff, Nat.reduceSub, List.size_toArray]
    refine ⟨_, _, known_f, ?_⟩
    try simp -implicitDefEqProofs (disch := first | decide | exact of_eq_true (eq_true rfl) | omega | assumption) only [ ↓vcD, vcE, evs, evP, evB, intsOf, fillC, Value.cells, pt, List.append_nil, List.nil_append, List.cons_append, List.length_cons, List.length_nil, List.filter_nil, List.map_nil, ↓List.getElem?_cons_zero, ↓List.getElem?_cons_succ, List.getElem?_cons_zero, List.getElem?_cons_succ, List.set_cons_zero, List.set_cons_succ, Option.join_some, Option.join_none, Option.map_some, List.all_cons, List.all_nil, Value.oneCell', reduceIte, reduceCtorEq, Nat.reduceEqDiff, Nat.reduceAdd, Nat.reduceMul, Nat.reduceLT, Nat.reduceBEq, Nat.reduceLeDiff, Nat.reduceSub, List.size_toArray]
    refine ITri.ret ?_; exact EndR.plain (by simp) (by rfl) (by rfl) (by rfl)
  have hb : n ≤ 1000000 := by omega
  by_cases hc : checkF l (k1, k2, k3) = 0
  rotate_left
  · obtain ⟨e1, e2, e3⟩ := best_bad hc
    have hz : ((0 : Nat) : Int) = 0 := rfl
    refine ITri.reg pok ?_; simp -implicitDefEqProofs (disch := first | decide | exact of_eq_true (eq_true rfl) | omega | assumption) only [g1, decide_false,  ↓vcD, vcE, evs, evP, evB, intsOf, fillC, Value.cells, pt, List.append_nil, List.nil_append, List.cons_append, List.length_cons, List.length_nil, List.filter_nil, List.map_nil, ↓List.getElem?_cons_zero, ↓List.getElem?_cons_succ, List.getElem?_cons_zero, List.getElem?_cons_succ, List.set_cons_zero, List.set_cons_succ, Option.join_some, Option.join_none, Option.map_some, List.all_cons, List.all_nil, Value.oneCell', reduceIte, reduceCtorEq, Nat.reduceEqDiff, Nat.reduceAdd, Nat.reduceMul, Nat.reduceLT, Nat.reduceBEq, Nat.reduceLeDiff, Nat.reduceSub, List.size_toArray]
    refine ⟨_, _, refCheck_f n l k1 k2 k3 hn hb (sees0 rfl (of_decide_eq_true rfl)) (Rd.hq rfl rfl), ?_⟩
    simp -implicitDefEqProofs (disch := first | decide | exact of_eq_true (eq_true rfl) | omega | assumption) only [hc, decide_false,  ↓vcD, vcE, evs, evP, evB, intsOf, fillC, Value.cells, pt, List.append_nil, List.nil_append, List.cons_append, List.length_cons, List.length_nil, List.filter_nil, List.map_nil, ↓List.getElem?_cons_zero, ↓List.getElem?_cons_succ, List.getElem?_cons_zero, List.getElem?_cons_succ, List.set_cons_zero, List.set_cons_succ, Option.join_some, Option.join_none, Option.map_some, List.all_cons, List.all_nil, Value.oneCell', reduceIte, reduceCtorEq, Nat.reduceEqDiff, Nat.reduceAdd, Nat.reduceMul, Nat.reduceLT, Nat.reduceBEq, Nat.reduceLeDiff, Nat.reduceSub, List.size_toArray]
    refine ITri.cond (v := false) rfl (fun h => by cases h) (fun _ => ?_)
    refine ITri.skip ?_; simp only [SeqQ_normal, BlkQ_normal]
    refine ITri.seq ?_
    refine ITri.draw pok ?_; simp -implicitDefEqProofs (disch := first | decide | exact of_eq_true (eq_true rfl) | omega | assumption) only [ ↓vcD, vcE, evs, evP, evB, intsOf, fillC, Value.cells, pt, List.append_nil, List.nil_append, List.cons_append, List.length_cons, List.length_nil, List.filter_nil, List.map_nil, ↓List.getElem?_cons_zero, ↓List.getElem?_cons_succ, List.getElem?_cons_zero, List.getElem?_cons_succ, List.set_cons_zero, List.set_cons_succ, Option.join_some, Option.join_none, Option.map_some, List.all_cons, List.all_nil, Value.oneCell', reduceIte, reduceCtorEq, Nat.reduceEqDiff, Nat.reduceAdd, Nat.reduceMul, Nat.reduceLT, Nat.reduceBEq, Nat.reduceLeDiff, Nat.reduceSub, List.size_toArray] -- r3
    refine ⟨_, _, own_f n l hn hb (sees0 rfl (of_decide_eq_true rfl)) (Rd.hq rfl rfl), ?_⟩
    try simp -implicitDefEqProofs (disch := first | decide | exact of_eq_true (eq_true rfl) | omega | assumption) only [ ↓vcD, vcE, evs, evP, evB, intsOf, fillC, Value.cells, pt, List.append_nil, List.nil_append, List.cons_append, List.length_cons, List.length_nil, List.filter_nil, List.map_nil, ↓List.getElem?_cons_zero, ↓List.getElem?_cons_succ, List.getElem?_cons_zero, List.getElem?_cons_succ, List.set_cons_zero, List.set_cons_succ, Option.join_some, Option.join_none, Option.map_some, List.all_cons, List.all_nil, Value.oneCell', reduceIte, reduceCtorEq, Nat.reduceEqDiff, Nat.reduceAdd, Nat.reduceMul, Nat.reduceLT, Nat.reduceBEq, Nat.reduceLeDiff, Nat.reduceSub, List.size_toArray]
    refine ⟨_, _, best_f n l k1 k2 k3 hn hb (sees0 rfl (of_decide_eq_true rfl)) (Rd.hq rfl rfl), ?_⟩
    try simp -implicitDefEqProofs (disch := first | decide | exact of_eq_true (eq_true rfl) | omega | assumption) only [ ↓vcD, vcE, evs, evP, evB, intsOf, fillC, Value.cells, pt, List.append_nil, List.nil_append, List.cons_append, List.length_cons, List.length_nil, List.filter_nil, List.map_nil, ↓List.getElem?_cons_zero, ↓List.getElem?_cons_succ, List.getElem?_cons_zero, List.getElem?_cons_succ, List.set_cons_zero, List.set_cons_succ, Option.join_some, Option.join_none, Option.map_some, List.all_cons, List.all_nil, Value.oneCell', reduceIte, reduceCtorEq, Nat.reduceEqDiff, Nat.reduceAdd, Nat.reduceMul, Nat.reduceLT, Nat.reduceBEq, Nat.reduceLeDiff, Nat.reduceSub, List.size_toArray]
    refine ITri.seq ?_
    refine ITri.seq ?_
    refine ITri.reg pok ?_; simp -implicitDefEqProofs (disch := first | decide | exact of_eq_true (eq_true rfl) | omega | assumption) only [ ↓vcD, vcE, evs, evP, evB, intsOf, fillC, Value.cells, pt, List.append_nil, List.nil_append, List.cons_append, List.length_cons, List.length_nil, List.filter_nil, List.map_nil, ↓List.getElem?_cons_zero, ↓List.getElem?_cons_succ, List.getElem?_cons_zero, List.getElem?_cons_succ, List.set_cons_zero, List.set_cons_succ, Option.join_some, Option.join_none, Option.map_some, List.all_cons, List.all_nil, Value.oneCell', reduceIte, reduceCtorEq, Nat.reduceEqDiff, Nat.reduceAdd, Nat.reduceMul, Nat.reduceLT, Nat.reduceBEq, Nat.reduceLeDiff, Nat.reduceSub, List.size_toArray] -- r4
    refine ⟨_, _, refCheck_f n l k1 k2 k3 hn hb (sees0 rfl (of_decide_eq_true rfl)) (Rd.hq rfl rfl), ?_⟩
    try simp -implicitDefEqProofs (disch := first | decide | exact of_eq_true (eq_true rfl) | omega | assumption) only [ ↓vcD, vcE, evs, evP, evB, intsOf, fillC, Value.cells, pt, List.append_nil, List.nil_append, List.cons_append, List.length_cons, List.length_nil, List.filter_nil, List.map_nil, ↓List.getElem?_cons_zero, ↓List.getElem?_cons_succ, List.getElem?_cons_zero, List.getElem?_cons_succ, List.set_cons_zero, List.set_cons_succ, Option.join_some, Option.join_none, Option.map_some, List.all_cons, List.all_nil, Value.oneCell', reduceIte, reduceCtorEq, Nat.reduceEqDiff, Nat.reduceAdd, Nat.reduceMul, Nat.reduceLT, Nat.reduceBEq, Nat.reduceLeDiff, Nat.reduceSub, List.size_toArray]
    refine ITri.seq ?_
    refine ITri.reg pok ?_; simp -implicitDefEqProofs (disch := first | decide | exact of_eq_true (eq_true rfl) | omega | assumption) only [hc, decide_false,  ↓vcD, vcE, evs, evP, evB, intsOf, fillC, Value.cells, pt, List.append_nil, List.nil_append, List.cons_append, List.length_cons, List.length_nil, List.filter_nil, List.map_nil, ↓List.getElem?_cons_zero, ↓List.getElem?_cons_succ, List.getElem?_cons_zero, List.getElem?_cons_succ, List.set_cons_zero, List.set_cons_succ, Option.join_some, Option.join_none, Option.map_some, List.all_cons, List.all_nil, Value.oneCell', reduceIte, reduceCtorEq, Nat.reduceEqDiff, Nat.reduceAdd, Nat.reduceMul, Nat.reduceLT, Nat.reduceBEq, Nat.reduceLeDiff, Nat.reduceSub, List.size_toArray]
    refine ITri.cond (v := true) rfl (fun _ => ?_) (fun h => by cases h)
    refine ITri.seq ?_
    refine ITri.reg pok ?_; simp -implicitDefEqProofs (disch := first | decide | exact of_eq_true (eq_true rfl) | omega | assumption) only [e1, e2, hz, decide_true,  ↓vcD, vcE, evs, evP, evB, intsOf, fillC, Value.cells, pt, List.append_nil, List.nil_append, List.cons_append, List.length_cons, List.length_nil, List.filter_nil, List.map_nil, ↓List.getElem?_cons_zero, ↓List.getElem?_cons_succ, List.getElem?_cons_zero, List.getElem?_cons_succ, List.set_cons_zero, List.set_cons_succ, Option.join_some, Option.join_none, Option.map_some, List.all_cons, List.all_nil, Value.oneCell', reduceIte, reduceCtorEq, Nat.reduceEqDiff, Nat.reduceAdd, Nat.reduceMul, Nat.reduceLT, Nat.reduceBEq, Nat.reduceLeDiff, Nat.reduceSub, List.size_toArray] -- r6
    refine ⟨_, _, known_f, ?_⟩
    try simp -implicitDefEqProofs (disch := first | decide | exact of_eq_true (eq_true rfl) | omega | assumption) only [ ↓vcD, vcE, evs, evP, evB, intsOf, fillC, Value.cells, pt, List.append_nil, List.nil_append, List.cons_append, List.length_cons, List.length_nil, List.filter_nil, List.map_nil, ↓List.getElem?_cons_zero, ↓List.getElem?_cons_succ, List.getElem?_cons_zero, List.getElem?_cons_succ, List.set_cons_zero, List.set_cons_succ, Option.join_some, Option.join_none, Option.map_some, List.all_cons, List.all_nil, Value.oneCell', reduceIte, reduceCtorEq, Nat.reduceEqDiff, Nat.reduceAdd, Nat.reduceMul, Nat.reduceLT, Nat.reduceBEq, Nat.reduceLeDiff, Nat.reduceSub, List.size_toArray]
    refine ITri.ret ?_; exact EndR.plain (by simp) (by rfl) (by rfl) (by rfl)
  have hok := checkF_ok hc
  refine ITri.reg pok ?_; simp -implicitDefEqProofs (disch := first | decide | exact of_eq_true (eq_true rfl) | omega | assumption) only [g1, decide_false,  ↓vcD, vcE, evs, evP, evB, intsOf, fillC, Value.cells, pt, List.append_nil, List.nil_append, List.cons_append, List.length_cons, List.length_nil, List.filter_nil, List.map_nil, ↓List.getElem?_cons_zero, ↓List.getElem?_cons_succ, List.getElem?_cons_zero, List.getElem?_cons_succ, List.set_cons_zero, List.set_cons_succ, Option.join_some, Option.join_none, Option.map_some, List.all_cons, List.all_nil, Value.oneCell', reduceIte, reduceCtorEq, Nat.reduceEqDiff, Nat.reduceAdd, Nat.reduceMul, Nat.reduceLT, Nat.reduceBEq, Nat.reduceLeDiff, Nat.reduceSub, List.size_toArray]
  refine ⟨_, _, refCheck_f n l k1 k2 k3 hn hb (sees0 rfl (of_decide_eq_true rfl)) (Rd.hq rfl rfl), ?_⟩
  simp -implicitDefEqProofs (disch := first | decide | exact of_eq_true (eq_true rfl) | omega | assumption) only [hc, decide_true,  ↓vcD, vcE, evs, evP, evB, intsOf, fillC, Value.cells, pt, List.append_nil, List.nil_append, List.cons_append, List.length_cons, List.length_nil, List.filter_nil, List.map_nil, ↓List.getElem?_cons_zero, ↓List.getElem?_cons_succ, List.getElem?_cons_zero, List.getElem?_cons_succ, List.set_cons_zero, List.set_cons_succ, Option.join_some, Option.join_none, Option.map_some, List.all_cons, List.all_nil, Value.oneCell', reduceIte, reduceCtorEq, Nat.reduceEqDiff, Nat.reduceAdd, Nat.reduceMul, Nat.reduceLT, Nat.reduceBEq, Nat.reduceLeDiff, Nat.reduceSub, List.size_toArray]
  refine ⟨_, _, refLength_f n l hn (by omega) hok.2.1 (sees0 rfl (of_decide_eq_true rfl)) (Rd.hq rfl rfl), ?_⟩
  try simp -implicitDefEqProofs (disch := first | decide | exact of_eq_true (eq_true rfl) | omega | assumption) only [ ↓vcD, vcE, evs, evP, evB, intsOf, fillC, Value.cells, pt, List.append_nil, List.nil_append, List.cons_append, List.length_cons, List.length_nil, List.filter_nil, List.map_nil, ↓List.getElem?_cons_zero, ↓List.getElem?_cons_succ, List.getElem?_cons_zero, List.getElem?_cons_succ, List.set_cons_zero, List.set_cons_succ, Option.join_some, Option.join_none, Option.map_some, List.all_cons, List.all_nil, Value.oneCell', reduceIte, reduceCtorEq, Nat.reduceEqDiff, Nat.reduceAdd, Nat.reduceMul, Nat.reduceLT, Nat.reduceBEq, Nat.reduceLeDiff, Nat.reduceSub, List.size_toArray]
  refine ITri.condD (by rfl) (fun h1 => ?_) (fun h1 => ?_) -- %23
  · refine ITri.seq ?_
    refine ITri.reg pok ?_; simp -implicitDefEqProofs (disch := first | decide | exact of_eq_true (eq_true rfl) | omega | assumption) only [ ↓vcD, vcE, evs, evP, evB, intsOf, fillC, Value.cells, pt, List.append_nil, List.nil_append, List.cons_append, List.length_cons, List.length_nil, List.filter_nil, List.map_nil, ↓List.getElem?_cons_zero, ↓List.getElem?_cons_succ, List.getElem?_cons_zero, List.getElem?_cons_succ, List.set_cons_zero, List.set_cons_succ, Option.join_some, Option.join_none, Option.map_some, List.all_cons, List.all_nil, Value.oneCell', reduceIte, reduceCtorEq, Nat.reduceEqDiff, Nat.reduceAdd, Nat.reduceMul, Nat.reduceLT, Nat.reduceBEq, Nat.reduceLeDiff, Nat.reduceSub, List.size_toArray] -- r2
    refine ⟨_, _, known_f, ?_⟩
    try simp -implicitDefEqProofs (disch := first | decide | exact of_eq_true (eq_true rfl) | omega | assumption) only [ ↓vcD, vcE, evs, evP, evB, intsOf, fillC, Value.cells, pt, List.append_nil, List.nil_append, List.cons_append, List.length_cons, List.length_nil, List.filter_nil, List.map_nil, ↓List.getElem?_cons_zero, ↓List.getElem?_cons_succ, List.getElem?_cons_zero, List.getElem?_cons_succ, List.set_cons_zero, List.set_cons_succ, Option.join_some, Option.join_none, Option.map_some, List.all_cons, List.all_nil, Value.oneCell', reduceIte, reduceCtorEq, Nat.reduceEqDiff, Nat.reduceAdd, Nat.reduceMul, Nat.reduceLT, Nat.reduceBEq, Nat.reduceLeDiff, Nat.reduceSub, List.size_toArray]
    refine ITri.ret ?_; exact EndR.plain (by simp) (by rfl) (by rfl) (by rfl)
  refine ITri.skip ?_; simp only [SeqQ_normal, BlkQ_normal]
  have hlen := bestL_len l k1 k2 k3
  have hwl := wF_len l hok.2.1
  have hcb : crpF (wF l) k1 k2 k3 0 (bestL l k1 k2 k3) := by
    rw [show bestL l k1 k2 k3 = bwP (wF l) k1 k2 k3 0 from if_pos hc]
    exact (bwP_crop (s2 := k2) (wF_in hok.2.1) hok.2.2.2.1 hok.2.2.2.2.2.2.1 (p := 0) (by omega)).1
  refine ITri.seq ?_
  refine ITri.draw pok ?_; simp -implicitDefEqProofs (disch := first | decide | exact of_eq_true (eq_true rfl) | omega | assumption) only [ ↓vcD, vcE, evs, evP, evB, intsOf, fillC, Value.cells, pt, List.append_nil, List.nil_append, List.cons_append, List.length_cons, List.length_nil, List.filter_nil, List.map_nil, ↓List.getElem?_cons_zero, ↓List.getElem?_cons_succ, List.getElem?_cons_zero, List.getElem?_cons_succ, List.set_cons_zero, List.set_cons_succ, Option.join_some, Option.join_none, Option.map_some, List.all_cons, List.all_nil, Value.oneCell', reduceIte, reduceCtorEq, Nat.reduceEqDiff, Nat.reduceAdd, Nat.reduceMul, Nat.reduceLT, Nat.reduceBEq, Nat.reduceLeDiff, Nat.reduceSub, List.size_toArray] -- r3
  refine ⟨_, _, own_f n l hn hb (sees0 rfl (of_decide_eq_true rfl)) (Rd.hq rfl rfl), ?_⟩
  try simp -implicitDefEqProofs (disch := first | decide | exact of_eq_true (eq_true rfl) | omega | assumption) only [ ↓vcD, vcE, evs, evP, evB, intsOf, fillC, Value.cells, pt, List.append_nil, List.nil_append, List.cons_append, List.length_cons, List.length_nil, List.filter_nil, List.map_nil, ↓List.getElem?_cons_zero, ↓List.getElem?_cons_succ, List.getElem?_cons_zero, List.getElem?_cons_succ, List.set_cons_zero, List.set_cons_succ, Option.join_some, Option.join_none, Option.map_some, List.all_cons, List.all_nil, Value.oneCell', reduceIte, reduceCtorEq, Nat.reduceEqDiff, Nat.reduceAdd, Nat.reduceMul, Nat.reduceLT, Nat.reduceBEq, Nat.reduceLeDiff, Nat.reduceSub, List.size_toArray]
  refine ⟨_, _, best_f n l k1 k2 k3 hn hb (sees0 rfl (of_decide_eq_true rfl)) (Rd.hq rfl rfl), ?_⟩
  try simp -implicitDefEqProofs (disch := first | decide | exact of_eq_true (eq_true rfl) | omega | assumption) only [ ↓vcD, vcE, evs, evP, evB, intsOf, fillC, Value.cells, pt, List.append_nil, List.nil_append, List.cons_append, List.length_cons, List.length_nil, List.filter_nil, List.map_nil, ↓List.getElem?_cons_zero, ↓List.getElem?_cons_succ, List.getElem?_cons_zero, List.getElem?_cons_succ, List.set_cons_zero, List.set_cons_succ, Option.join_some, Option.join_none, Option.map_some, List.all_cons, List.all_nil, Value.oneCell', reduceIte, reduceCtorEq, Nat.reduceEqDiff, Nat.reduceAdd, Nat.reduceMul, Nat.reduceLT, Nat.reduceBEq, Nat.reduceLeDiff, Nat.reduceSub, List.size_toArray]
  refine ITri.seq ?_
  refine ITri.seq ?_
  refine ITri.reg pok ?_; simp -implicitDefEqProofs (disch := first | decide | exact of_eq_true (eq_true rfl) | omega | assumption) only [ ↓vcD, vcE, evs, evP, evB, intsOf, fillC, Value.cells, pt, List.append_nil, List.nil_append, List.cons_append, List.length_cons, List.length_nil, List.filter_nil, List.map_nil, ↓List.getElem?_cons_zero, ↓List.getElem?_cons_succ, List.getElem?_cons_zero, List.getElem?_cons_succ, List.set_cons_zero, List.set_cons_succ, Option.join_some, Option.join_none, Option.map_some, List.all_cons, List.all_nil, Value.oneCell', reduceIte, reduceCtorEq, Nat.reduceEqDiff, Nat.reduceAdd, Nat.reduceMul, Nat.reduceLT, Nat.reduceBEq, Nat.reduceLeDiff, Nat.reduceSub, List.size_toArray] -- r4
  refine ⟨_, _, refCheck_f n l k1 k2 k3 hn hb (sees0 rfl (of_decide_eq_true rfl)) (Rd.hq rfl rfl), ?_⟩
  try simp -implicitDefEqProofs (disch := first | decide | exact of_eq_true (eq_true rfl) | omega | assumption) only [ ↓vcD, vcE, evs, evP, evB, intsOf, fillC, Value.cells, pt, List.append_nil, List.nil_append, List.cons_append, List.length_cons, List.length_nil, List.filter_nil, List.map_nil, ↓List.getElem?_cons_zero, ↓List.getElem?_cons_succ, List.getElem?_cons_zero, List.getElem?_cons_succ, List.set_cons_zero, List.set_cons_succ, Option.join_some, Option.join_none, Option.map_some, List.all_cons, List.all_nil, Value.oneCell', reduceIte, reduceCtorEq, Nat.reduceEqDiff, Nat.reduceAdd, Nat.reduceMul, Nat.reduceLT, Nat.reduceBEq, Nat.reduceLeDiff, Nat.reduceSub, List.size_toArray]
  refine ITri.seq ?_
  refine ITri.reg pok ?_; simp -implicitDefEqProofs (disch := first | decide | exact of_eq_true (eq_true rfl) | omega | assumption) only [hc, decide_true, Bool.not_true,  ↓vcD, vcE, evs, evP, evB, intsOf, fillC, Value.cells, pt, List.append_nil, List.nil_append, List.cons_append, List.length_cons, List.length_nil, List.filter_nil, List.map_nil, ↓List.getElem?_cons_zero, ↓List.getElem?_cons_succ, List.getElem?_cons_zero, List.getElem?_cons_succ, List.set_cons_zero, List.set_cons_succ, Option.join_some, Option.join_none, Option.map_some, List.all_cons, List.all_nil, Value.oneCell', reduceIte, reduceCtorEq, Nat.reduceEqDiff, Nat.reduceAdd, Nat.reduceMul, Nat.reduceLT, Nat.reduceBEq, Nat.reduceLeDiff, Nat.reduceSub, List.size_toArray]
  refine ITri.cond (v := false) rfl (fun h => by cases h) (fun _ => ?_)
  refine ITri.skip ?_; simp only [SeqQ_normal, BlkQ_normal]
  refine ITri.seq ?_
  refine ITri.reg pok ?_; simp -implicitDefEqProofs (disch := first | decide | exact of_eq_true (eq_true rfl) | omega | assumption) only [ ↓vcD, vcE, evs, evP, evB, intsOf, fillC, Value.cells, pt, List.append_nil, List.nil_append, List.cons_append, List.length_cons, List.length_nil, List.filter_nil, List.map_nil, ↓List.getElem?_cons_zero, ↓List.getElem?_cons_succ, List.getElem?_cons_zero, List.getElem?_cons_succ, List.set_cons_zero, List.set_cons_succ, Option.join_some, Option.join_none, Option.map_some, List.all_cons, List.all_nil, Value.oneCell', reduceIte, reduceCtorEq, Nat.reduceEqDiff, Nat.reduceAdd, Nat.reduceMul, Nat.reduceLT, Nat.reduceBEq, Nat.reduceLeDiff, Nat.reduceSub, List.size_toArray] -- r7
  refine ⟨_, _, refBest_f n l k1 k2 k3 hn hc (by omega) (sees0 rfl (of_decide_eq_true rfl)) (Rd.hq rfl rfl), ?_⟩
  try simp -implicitDefEqProofs (disch := first | decide | exact of_eq_true (eq_true rfl) | omega | assumption) only [ ↓vcD, vcE, evs, evP, evB, intsOf, fillC, Value.cells, pt, List.append_nil, List.nil_append, List.cons_append, List.length_cons, List.length_nil, List.filter_nil, List.map_nil, ↓List.getElem?_cons_zero, ↓List.getElem?_cons_succ, List.getElem?_cons_zero, List.getElem?_cons_succ, List.set_cons_zero, List.set_cons_succ, Option.join_some, Option.join_none, Option.map_some, List.all_cons, List.all_nil, Value.oneCell', reduceIte, reduceCtorEq, Nat.reduceEqDiff, Nat.reduceAdd, Nat.reduceMul, Nat.reduceLT, Nat.reduceBEq, Nat.reduceLeDiff, Nat.reduceSub, List.size_toArray]
  refine ITri.seq ?_
  refine ITri.reg pok ?_; simp -implicitDefEqProofs (disch := first | decide | exact of_eq_true (eq_true rfl) | omega | assumption) only [hc, decide_true,  ↓vcD, vcE, evs, evP, evB, intsOf, fillC, Value.cells, pt, List.append_nil, List.nil_append, List.cons_append, List.length_cons, List.length_nil, List.filter_nil, List.map_nil, ↓List.getElem?_cons_zero, ↓List.getElem?_cons_succ, List.getElem?_cons_zero, List.getElem?_cons_succ, List.set_cons_zero, List.set_cons_succ, Option.join_some, Option.join_none, Option.map_some, List.all_cons, List.all_nil, Value.oneCell', reduceIte, reduceCtorEq, Nat.reduceEqDiff, Nat.reduceAdd, Nat.reduceMul, Nat.reduceLT, Nat.reduceBEq, Nat.reduceLeDiff, Nat.reduceSub, List.size_toArray] -- r8
  refine ⟨_, _, same_f _ _ (bestL l k1 k2 k3) (bestL l k1 k2 k3) rfl rfl (by omega) (sees0 rfl (of_decide_eq_true rfl)) (Rd.hq rfl rfl) (Rd.hq rfl rfl), ?_⟩
  have eT : rsum l (bestL l k1 k2 k3) = bestT l k1 k2 k3 := by
    rw [crp_sum hc hcb, show bestL l k1 k2 k3 = bwP (wF l) k1 k2 k3 0 from if_pos hc, (bwP_crop (s2 := k2) (wF_in hok.2.1) hok.2.2.2.1 hok.2.2.2.2.2.2.1 (p := 0) (by omega)).2]
    exact (if_pos hc).symm
  simp -implicitDefEqProofs (disch := first | decide | exact of_eq_true (eq_true rfl) | omega | assumption) only [decide_true,  ↓vcD, vcE, evs, evP, evB, intsOf, fillC, Value.cells, pt, List.append_nil, List.nil_append, List.cons_append, List.length_cons, List.length_nil, List.filter_nil, List.map_nil, ↓List.getElem?_cons_zero, ↓List.getElem?_cons_succ, List.getElem?_cons_zero, List.getElem?_cons_succ, List.set_cons_zero, List.set_cons_succ, Option.join_some, Option.join_none, Option.map_some, List.all_cons, List.all_nil, Value.oneCell', reduceIte, reduceCtorEq, Nat.reduceEqDiff, Nat.reduceAdd, Nat.reduceMul, Nat.reduceLT, Nat.reduceBEq, Nat.reduceLeDiff, Nat.reduceSub, List.size_toArray]
  refine ⟨_, _, refTotal_f n l k1 k2 _ (bestL l k1 k2 k3) hn (by omega) hok.2.1 (by omega) rfl (by omega) (crp_al hc hcb) (by omega) (sees0 rfl (of_decide_eq_true rfl)) (Rd.hq rfl rfl) (Rd.hq rfl rfl), ?_⟩
  simp -implicitDefEqProofs (disch := first | decide | exact of_eq_true (eq_true rfl) | omega | assumption) only [eT, decide_true,  ↓vcD, vcE, evs, evP, evB, intsOf, fillC, Value.cells, pt, List.append_nil, List.nil_append, List.cons_append, List.length_cons, List.length_nil, List.filter_nil, List.map_nil, ↓List.getElem?_cons_zero, ↓List.getElem?_cons_succ, List.getElem?_cons_zero, List.getElem?_cons_succ, List.set_cons_zero, List.set_cons_succ, Option.join_some, Option.join_none, Option.map_some, List.all_cons, List.all_nil, Value.oneCell', reduceIte, reduceCtorEq, Nat.reduceEqDiff, Nat.reduceAdd, Nat.reduceMul, Nat.reduceLT, Nat.reduceBEq, Nat.reduceLeDiff, Nat.reduceSub, List.size_toArray]
  refine ⟨_, _, known_f, ?_⟩
  try simp -implicitDefEqProofs (disch := first | decide | exact of_eq_true (eq_true rfl) | omega | assumption) only [ ↓vcD, vcE, evs, evP, evB, intsOf, fillC, Value.cells, pt, List.append_nil, List.nil_append, List.cons_append, List.length_cons, List.length_nil, List.filter_nil, List.map_nil, ↓List.getElem?_cons_zero, ↓List.getElem?_cons_succ, List.getElem?_cons_zero, List.getElem?_cons_succ, List.set_cons_zero, List.set_cons_succ, Option.join_some, Option.join_none, Option.map_some, List.all_cons, List.all_nil, Value.oneCell', reduceIte, reduceCtorEq, Nat.reduceEqDiff, Nat.reduceAdd, Nat.reduceMul, Nat.reduceLT, Nat.reduceBEq, Nat.reduceLeDiff, Nat.reduceSub, List.size_toArray]
  refine ITri.ret ?_; exact EndR.plain (by simp) (by rfl) (by rfl) (by rfl)
end Go.Proofs.Ytlkfcbdbieenhaa
