/-
  Chapter 11, by names: met, earlier; when touches are in order; the touches without one cleaning.
-/
import Derived.Test.YtfmcdbcoljpomaaShopD4
set_option linter.unusedSimpArgs false
set_option linter.unusedVariables false
namespace Go.Proofs.Ytfmcdbcoljpomaa
open Go.RowKit Go.Vm
set_option maxRecDepth 100000
theorem inT_mk {n a b : Int} (h1 : a ≤ n) (h2 : n ≤ b) : inT n a b = true := by
  unfold inT
  rw [decide_eq_true h1, decide_eq_true h2]
  rfl
theorem tcS_mk {lots tools : Int} : ∀ {l : List Tc} {last : Int}, (∀ x ∈ l, last ≤ x.1 ∧ x.1 ≤ 100000000 ∧ (-1 ≤ x.2.1 ∧ x.2.1 ≤ lots - 1) ∧ 0 ≤ x.2.2 ∧ x.2.2 ≤ tools - 1) → l.Pairwise (fun x y => x.1 ≤ y.1) → tcS lots tools l last = 0
  | [], _, _, _ => rfl
  | x :: r, last, h, hp => by
    rw [List.pairwise_cons] at hp
    have hx := h x (by simp)
    rw [tcS, if_neg (by rw [inT_mk hx.1 hx.2.1]; simp), if_neg (by rw [inT_mk hx.2.2.1.1 hx.2.2.1.2, inT_mk hx.2.2.2.1 hx.2.2.2.2]; simp)]
    exact tcS_mk (fun y hy => ⟨hp.1 y hy, (h y (by simp [hy])).2⟩) hp.2
theorem tc_mk {l : List Tc} {lots tools bad since : Int} (h1 : l.length ≤ 500) (h2 : 0 ≤ lots ∧ lots ≤ 100) (h3 : 0 ≤ tools ∧ tools ≤ 100) (h4 : 0 ≤ since ∧ since ≤ 100000000) (h5 : 0 ≤ bad ∧ bad ≤ tools - 1) (h6 : ∀ x ∈ l, 0 ≤ x.1 ∧ x.1 ≤ 100000000 ∧ (-1 ≤ x.2.1 ∧ x.2.1 ≤ lots - 1) ∧ 0 ≤ x.2.2 ∧ x.2.2 ≤ tools - 1) (h7 : l.Pairwise (fun x y => x.1 ≤ y.1)) : tcE l lots tools bad since = 0 := by
  unfold tcE
  rw [if_neg (by omega), if_neg (by rw [inT_mk h2.1 h2.2, inT_mk h3.1 h3.2, inT_mk h4.1 h4.2]; simp), if_neg (by rw [inT_mk h5.1 h5.2]; simp)]
  exact tcS_mk h6 h7
/-- The first k touches, but for touch j if it is a cleaning. -/
def moL (l : List Tc) (j k : Nat) : List Tc := if k ≤ j then l.take k else if 0 ≤ (nth l j).2.1 then l.take k else l.take j ++ (l.take k).drop (j + 1)
theorem moL_0 (l : List Tc) (j : Nat) : moL l j 0 = [] := by
  unfold moL
  rw [if_pos (Nat.zero_le _), List.take_zero]
theorem take_sn {l : List Tc} {k : Nat} (h : k < l.length) : l.take (k + 1) = l.take k ++ [nth l k] := by
  rw [List.take_add_one, get_nth h]
  rfl
theorem moL_in {l : List Tc} {j k : Nat} (hk : k < l.length) (h : k ≠ j ∨ 0 ≤ (nth l k).2.1) : moL l j (k + 1) = moL l j k ++ [nth l k] := by
  unfold moL
  rcases Nat.lt_trichotomy k j with c | c | c
  · rw [if_pos (by omega), if_pos (by omega), take_sn hk]
  · subst c
    rw [if_neg (by omega), if_pos (Nat.le_refl _), if_pos (by omega : 0 ≤ (nth l k).2.1), take_sn hk]
  · rw [if_neg (show ¬ k + 1 ≤ j by omega), if_neg (show ¬ k ≤ j by omega)]
    split
    · exact take_sn hk
    · rw [take_sn hk, List.drop_append_of_le_length (by rw [List.length_take]; omega), List.append_assoc]
theorem moL_out {l : List Tc} {j k : Nat} (hk : k < l.length) (h1 : k = j) (h2 : ¬ 0 ≤ (nth l k).2.1) : moL l j (k + 1) = moL l j k := by
  subst h1
  unfold moL
  rw [if_neg (by omega), if_neg h2, if_pos (Nat.le_refl _), List.drop_of_length_le (by rw [List.length_take]; omega), List.append_nil]
theorem moL_len (l : List Tc) (j k : Nat) (hk : k ≤ l.length) : (moL l j k).length ≤ k := by
  unfold moL
  split
  · rw [List.length_take]; omega
  · split
    · rw [List.length_take]; omega
    · rw [List.length_append, List.length_drop, List.length_take, List.length_take]
      omega
/-- In the end. -/
theorem moL_end {l : List Tc} {j : Nat} (hj : j < l.length) : (0 ≤ (nth l j).2.1 ∧ moL l j l.length = l) ∨ ((nth l j).2.1 < 0 ∧ moL l j l.length = l.take j ++ l.drop (j + 1) ∧ l = l.take j ++ nth l j :: l.drop (j + 1)) := by
  unfold moL
  rw [if_neg (by omega)]
  by_cases h : 0 ≤ (nth l j).2.1
  · rw [if_pos h, List.take_length]
    exact .inl ⟨h, rfl⟩
  · rw [if_neg h, List.take_length]
    refine .inr ⟨by omega, rfl, ?_⟩
    rw [← drop_nth hj, List.take_append_drop]
theorem moL_sub {l : List Tc} {j : Nat} (hj : j < l.length) : (moL l j l.length).Sublist l := by
  rcases moL_end hj with ⟨_, e⟩ | ⟨_, e, e2⟩
  · rw [e]; exact List.Sublist.refl _
  · rw [e]
    conv => rhs; rw [e2]
    exact List.Sublist.append (List.Sublist.refl _) (List.sublist_cons_self _ _)
theorem tn_more {l : List Tc} {j p q bad : Nat} {since : Int} (hj : j < l.length) (hb : bad < q) (h0 : 0 ≤ since) (hl : ∀ y ∈ l, InB p q y) (hs : l.Pairwise (fun x y => x.1 ≤ y.1)) : TL2 (tnG l p q bad since) (tnG (moL l j l.length) p q bad since) := by
  rcases moL_end hj with ⟨_, e⟩ | ⟨hc, e, e2⟩
  · rw [e]
    exact ⟨TL.rfl' _, TL.rfl' _⟩
  · rw [e]
    conv => lhs; rw [e2]
    exact tnG_erase hb h0 (by rw [← e2]; exact hl) (by rw [← e2]; exact hs) hc
/-- Whether a lot, or a tool, was touched at a time. -/
def metP (lot tool at' : Int) (x : Tc) : Bool := decide (x.1 = at') && decide (0 ≤ x.2.1) && (decide (lot < 0) || decide (x.2.1 = lot)) && (decide (tool < 0) || decide (x.2.2 = tool))
/- boule/boulelaw11.met · slots 57 · names 0:l 1:lot 2:tool 3:at 4:l 5:lot 6:tool 7:at 9:i · results [8] -/
def ir24_r0 : IC := .reg [⟨some 8, none, false, .mv (.k (.bool false))⟩] (some [0, 1, 2, 3])
def ir24_r1 : IC := .reg [⟨some 9, none, false, .mv (.k (.int .i64 0))⟩] (some [0, 1, 2, 3, 9])
def ir24_r2 : IC := .reg [⟨some 10, none, false, .mv (.t 9)⟩,
  ⟨some 11, none, false, .mv (.t 0)⟩,
  ⟨some 12, none, false, .len (.t 11)⟩,
  ⟨some 13, none, false, .cmp .lss (.t 10) (.t 12)⟩] (some [0, 1, 2, 3, 9, 13])
def ir24_1 : IC := .cond (.t 13) .skip (.exit 0)
def ir24_2 : IC := .seq ir24_r2 ir24_1
def ir24_r4 : IC := .reg [⟨some 16, none, false, .mv (.t 0)⟩,
  ⟨some 17, none, false, .mv (.t 9)⟩,
  ⟨some 18, none, false, .iad 3 (.t 16) (.t 17)⟩,
  ⟨some 19, none, false, .fad 0 (.t 18)⟩,
  ⟨some 20, none, false, .ldc (.t 19)⟩,
  ⟨some 21, none, false, .mv (.t 3)⟩,
  ⟨some 22, none, false, .cmp .eql (.t 20) (.t 21)⟩,
  ⟨some 23, none, false, .mv (.t 22)⟩,
  ⟨some 24, some (23, true), false, .mv (.t 0)⟩,
  ⟨some 25, some (23, true), false, .mv (.t 9)⟩,
  ⟨some 26, some (23, true), false, .iad 3 (.t 24) (.t 25)⟩,
  ⟨some 27, some (23, true), false, .fad 1 (.t 26)⟩,
  ⟨some 28, some (23, true), false, .ldc (.t 27)⟩,
  ⟨some 29, some (23, true), false, .cmp .geq (.t 28) (.k (.int .i64 0))⟩,
  ⟨some 30, none, false, .pick (.t 23) (.t 29) (.k (.bool false))⟩,
  ⟨some 31, none, false, .mv (.t 30)⟩,
  ⟨some 32, some (31, true), false, .mv (.t 1)⟩,
  ⟨some 33, some (31, true), false, .cmp .lss (.t 32) (.k (.int .i64 0))⟩,
  ⟨some 34, some (31, true), false, .mv (.t 33)⟩,
  ⟨some 35, some (34, false), false, .mv (.t 0)⟩,
  ⟨some 36, some (34, false), false, .mv (.t 9)⟩,
  ⟨some 37, some (34, false), false, .iad 3 (.t 35) (.t 36)⟩,
  ⟨some 38, some (34, false), false, .fad 1 (.t 37)⟩,
  ⟨some 39, some (34, false), false, .ldc (.t 38)⟩,
  ⟨some 40, some (34, false), false, .mv (.t 1)⟩,
  ⟨some 41, some (34, false), false, .cmp .eql (.t 39) (.t 40)⟩,
  ⟨some 42, some (31, true), false, .pick (.t 34) (.k (.bool true)) (.t 41)⟩,
  ⟨some 43, none, false, .pick (.t 31) (.t 42) (.k (.bool false))⟩,
  ⟨some 44, none, false, .mv (.t 43)⟩,
  ⟨some 45, some (44, true), false, .mv (.t 2)⟩,
  ⟨some 46, some (44, true), false, .cmp .lss (.t 45) (.k (.int .i64 0))⟩,
  ⟨some 47, some (44, true), false, .mv (.t 46)⟩,
  ⟨some 48, some (47, false), false, .mv (.t 0)⟩,
  ⟨some 49, some (47, false), false, .mv (.t 9)⟩,
  ⟨some 50, some (47, false), false, .iad 3 (.t 48) (.t 49)⟩,
  ⟨some 51, some (47, false), false, .fad 2 (.t 50)⟩,
  ⟨some 52, some (47, false), false, .ldc (.t 51)⟩,
  ⟨some 53, some (47, false), false, .mv (.t 2)⟩,
  ⟨some 54, some (47, false), false, .cmp .eql (.t 52) (.t 53)⟩,
  ⟨some 55, some (44, true), false, .pick (.t 47) (.k (.bool true)) (.t 54)⟩,
  ⟨some 56, none, false, .pick (.t 44) (.t 55) (.k (.bool false))⟩] (some [0, 1, 2, 3, 9, 56])
def ir24_r5 : IC := .reg [⟨some 8, none, false, .mv (.k (.bool true))⟩] (some [8])
def ir24_3 : IC := .seq ir24_r5 .ret
def ir24_4 : IC := .cond (.t 56) ir24_3 .skip
def ir24_5 : IC := .seq ir24_r4 ir24_4
def ir24_6 : IC := .block 1 ir24_5
def ir24_r3 : IC := .reg [⟨some 14, none, false, .mv (.t 9)⟩,
  ⟨some 15, none, false, .ar .add (.t 14) (.k (.int .i64 1))⟩,
  ⟨some 9, none, false, .mv (.t 15)⟩] (some [0, 1, 2, 3, 9])
def ir24_7 : IC := .seq ir24_6 ir24_r3
def ir24_8 : IC := .seq ir24_2 ir24_7
def ir24_9 : IC := .loop ir24_8
def ir24_10 : IC := .block 0 ir24_9
def ir24_11 : IC := .seq ir24_r1 ir24_10
def ir24_r6 : IC := .reg [⟨some 8, none, false, .mv (.k (.bool false))⟩] (some [8])
def ir24_12 : IC := .seq ir24_r6 .ret
def ir24_13 : IC := .seq ir24_11 ir24_12
def ir24_14 : IC := .seq ir24_r0 ir24_13
def ir24 : IC := ir24_14
theorem fn24 : FnIs Try.prog 24 ir24 57 [.tmp 8] := ⟨Try.f24, Try.f24.body.getD .skip, Try.func24, by kernel_rfl, by kernel_rfl, by kernel_rfl, by kernel_rfl⟩
/- boule/boulelaw11.earlier · slots 40 · names 0:a 1:b 2:a 3:b 5:i · results [4] -/
def ir25_r0 : IC := .reg [⟨some 4, none, false, .mv (.k (.bool false))⟩] (some [0, 1])
def ir25_r1 : IC := .reg [⟨some 6, none, false, .mv (.t 0)⟩,
  ⟨some 7, none, false, .len (.t 6)⟩,
  ⟨some 8, none, false, .mv (.t 1)⟩,
  ⟨some 9, none, false, .len (.t 8)⟩,
  ⟨some 10, none, false, .cmp .neq (.t 7) (.t 9)⟩] (some [0, 1, 10])
def ir25_r2 : IC := .reg [⟨some 4, none, false, .mv (.k (.bool false))⟩] (some [4])
def ir25_1 : IC := .seq ir25_r2 .ret
def ir25_2 : IC := .cond (.t 10) ir25_1 .skip
def ir25_3 : IC := .seq ir25_r1 ir25_2
def ir25_r3 : IC := .reg [⟨some 5, none, false, .mv (.k (.int .i64 0))⟩] (some [0, 1, 5])
def ir25_r4 : IC := .reg [⟨some 11, none, false, .mv (.t 5)⟩,
  ⟨some 12, none, false, .mv (.t 0)⟩,
  ⟨some 13, none, false, .len (.t 12)⟩,
  ⟨some 14, none, false, .cmp .lss (.t 11) (.t 13)⟩] (some [0, 1, 5, 14])
def ir25_4 : IC := .cond (.t 14) .skip (.exit 0)
def ir25_5 : IC := .seq ir25_r4 ir25_4
def ir25_r6 : IC := .draw [(⟨some 17, none, false, .mv (.t 1)⟩, false, 0, 0),
  (⟨some 18, none, false, .mv (.t 5)⟩, false, 0, 0),
  (⟨some 19, none, false, .iad 1 (.t 17) (.t 18)⟩, false, 3, 0),
  (⟨some 20, none, false, .ldc (.t 19)⟩, true, 7, 1),
  (⟨some 21, none, false, .cmp .geq (.t 20) (.k (.int .i64 0))⟩, false, 15, 0),
  (⟨some 22, none, false, .mv (.t 21)⟩, false, 31, 0),
  (⟨some 23, some (22, true), false, .mv (.t 0)⟩, false, 63, 0),
  (⟨some 24, some (22, true), false, .mv (.t 5)⟩, false, 63, 0),
  (⟨some 25, some (22, true), false, .iad 1 (.t 23) (.t 24)⟩, false, 255, 0),
  (⟨some 26, some (22, true), false, .ldc (.t 25)⟩, true, 511, 1),
  (⟨some 27, some (22, true), false, .cmp .lss (.t 26) (.k (.int .i64 0))⟩, false, 1023, 0),
  (⟨some 28, some (22, true), false, .mv (.t 27)⟩, false, 2047, 0),
  (⟨some 29, some (28, false), false, .mv (.t 0)⟩, false, 4095, 0),
  (⟨some 30, some (28, false), false, .mv (.t 5)⟩, false, 4095, 0),
  (⟨some 31, some (28, false), false, .iad 1 (.t 29) (.t 30)⟩, false, 16383, 0),
  (⟨some 32, some (28, false), false, .ldc (.t 31)⟩, false, 32767, 1),
  (⟨some 33, some (28, false), false, .mv (.t 1)⟩, false, 4095, 0),
  (⟨some 34, some (28, false), false, .mv (.t 5)⟩, false, 4095, 0),
  (⟨some 35, some (28, false), false, .iad 1 (.t 33) (.t 34)⟩, false, 200703, 0),
  (⟨some 36, some (28, false), false, .ldc (.t 35)⟩, false, 462847, 32768),
  (⟨some 37, some (28, false), false, .cmp .gtr (.t 32) (.t 36)⟩, false, 1048575, 0),
  (⟨some 38, some (22, true), false, .pick (.t 28) (.k (.bool true)) (.t 37)⟩, false, 2097151, 0),
  (⟨some 39, none, false, .pick (.t 22) (.t 38) (.k (.bool false))⟩, false, 4194303, 0)] (some [0, 1, 5, 39])
def ir25_r7 : IC := .reg [⟨some 4, none, false, .mv (.k (.bool false))⟩] (some [4])
def ir25_6 : IC := .seq ir25_r7 .ret
def ir25_7 : IC := .cond (.t 39) ir25_6 .skip
def ir25_8 : IC := .seq ir25_r6 ir25_7
def ir25_9 : IC := .block 1 ir25_8
def ir25_r5 : IC := .reg [⟨some 15, none, false, .mv (.t 5)⟩,
  ⟨some 16, none, false, .ar .add (.t 15) (.k (.int .i64 1))⟩,
  ⟨some 5, none, false, .mv (.t 16)⟩] (some [0, 1, 5])
def ir25_10 : IC := .seq ir25_9 ir25_r5
def ir25_11 : IC := .seq ir25_5 ir25_10
def ir25_12 : IC := .loop ir25_11
def ir25_13 : IC := .block 0 ir25_12
def ir25_14 : IC := .seq ir25_r3 ir25_13
def ir25_r8 : IC := .reg [⟨some 4, none, false, .mv (.k (.bool true))⟩] (some [4])
def ir25_15 : IC := .seq ir25_r8 .ret
def ir25_16 : IC := .seq ir25_14 ir25_15
def ir25_17 : IC := .seq ir25_3 ir25_16
def ir25_18 : IC := .seq ir25_r0 ir25_17
def ir25 : IC := ir25_18
theorem fn25 : FnIs Try.prog 25 ir25 40 [.tmp 4] := ⟨Try.f25, Try.f25.body.getD .skip, Try.func25, by kernel_rfl, by kernel_rfl, by kernel_rfl, by kernel_rfl⟩
set_option maxHeartbeats 4000000 in
theorem met_c (n c : Nat) (l : List Tc) (lot tool at' : Int) (hl : l.length = n) (hb : n ≤ 1000000) :
    Fc Try.prog 24 [.slice (some ⟨1, 0, none⟩) n c, .int .i64 lot, .int .i64 tool, .int .i64 at'] (Hp 2 [none, some (.cells ⟨rows eC l, 0, false⟩)]) (.bool (l.any (metP lot tool at'))) (Hp 2 [none, some (.cells ⟨rows eC l, 0, false⟩)]) := by
  refine Fc.intro0 fn24 (by simp) rfl rfl ?_; simp only [argF]
  refine ITri.seq ?_
  refine ITri.reg pokT ?_; simp -implicitDefEqProofs (disch := first | decide | exact of_eq_true (eq_true rfl) | omega | assumption) only [ ↓vcD, vcE, evs, evP, evB, intsOf, fillC, Value.cells, pt, List.append_nil, List.nil_append, List.cons_append, List.length_cons, List.length_nil, List.filter_nil, List.map_nil, ↓List.getElem?_cons_zero, ↓List.getElem?_cons_succ, List.getElem?_cons_zero, List.getElem?_cons_succ, List.set_cons_zero, List.set_cons_succ, Option.join_some, Option.join_none, Option.map_some, List.all_cons, List.all_nil, Value.oneCell', reduceIte, reduceCtorEq, Nat.reduceEqDiff, Nat.reduceAdd, Nat.reduceMul, Nat.reduceLT, Nat.reduceBEq, Nat.reduceLeDiff, Nat.reduceSub, List.size_toArray] -- r0
  refine ITri.seq ?_
  refine ITri.seq ?_
  refine ITri.reg pokT ?_; simp -implicitDefEqProofs (disch := first | decide | exact of_eq_true (eq_true rfl) | omega | assumption) only [ ↓vcD, vcE, evs, evP, evB, intsOf, fillC, Value.cells, pt, List.append_nil, List.nil_append, List.cons_append, List.length_cons, List.length_nil, List.filter_nil, List.map_nil, ↓List.getElem?_cons_zero, ↓List.getElem?_cons_succ, List.getElem?_cons_zero, List.getElem?_cons_succ, List.set_cons_zero, List.set_cons_succ, Option.join_some, Option.join_none, Option.map_some, List.all_cons, List.all_nil, Value.oneCell', reduceIte, reduceCtorEq, Nat.reduceEqDiff, Nat.reduceAdd, Nat.reduceMul, Nat.reduceLT, Nat.reduceBEq, Nat.reduceLeDiff, Nat.reduceSub, List.size_toArray] -- r1
  refine ITri.block ?_ -- 0
  refine ITri.loop (fun k : Nat => [(0, .slice (some ⟨1, 0, none⟩) n c), (1, .int .i64 lot), (2, .int .i64 tool), (3, .int .i64 at'), (9, .int .i64 k)]) (fun _ => []) (fun k => Hp 2 [none, some (.cells ⟨rows eC l, 0, false⟩)]) (fun k => k ≤ n ∧ (l.take k).any (metP lot tool at') = false) (fun k => n - k) 0 ⟨Nat.zero_le _, rfl⟩ (Wk.sub ⟨rfl, rfl, rfl, rfl, rfl, trivial⟩) fun k hk => ?_
  obtain ⟨hk, hno⟩ := hk
  refine ITri.seq ?_
  refine ITri.seq ?_
  refine ITri.reg pokT ?_; simp -implicitDefEqProofs (disch := first | decide | exact of_eq_true (eq_true rfl) | omega | assumption) only [ ↓vcD, vcE, evs, evP, evB, intsOf, fillC, Value.cells, pt, List.append_nil, List.nil_append, List.cons_append, List.length_cons, List.length_nil, List.filter_nil, List.map_nil, ↓List.getElem?_cons_zero, ↓List.getElem?_cons_succ, List.getElem?_cons_zero, List.getElem?_cons_succ, List.set_cons_zero, List.set_cons_succ, Option.join_some, Option.join_none, Option.map_some, List.all_cons, List.all_nil, Value.oneCell', reduceIte, reduceCtorEq, Nat.reduceEqDiff, Nat.reduceAdd, Nat.reduceMul, Nat.reduceLT, Nat.reduceBEq, Nat.reduceLeDiff, Nat.reduceSub, List.size_toArray] -- r2
  refine ITri.condD (by rfl) (fun h2 => ?_) (fun h2 => ?_)
  · have hkr : k < l.length := by omega
    have hstep : (l.take (k + 1)).any (metP lot tool at') = metP lot tool at' (nth l k) := by rw [take_sn hkr, List.any_append, hno]; simp
    obtain ⟨⟨a1, a2, a3⟩, hab⟩ : ∃ r, nth l k = r := ⟨_, rfl⟩
    have ga : (rows eC l)[k * 3]? = some (.int .i64 a1) := by rw [rows_get0 (f := eC) hkr (by omega), hab]; rfl
    have gb : (rows eC l)[k * 3 + 1]? = some (.int .i64 a2) := by rw [rows_get (f := eC) hkr (by omega), hab]; rfl
    have gc : (rows eC l)[k * 3 + 2]? = some (.int .i64 a3) := by rw [rows_get (f := eC) hkr (by omega), hab]; rfl
    rw [hab] at hstep
    refine ITri.skip ?_; simp only [SeqQ_normal, BlkQ_normal]
    refine ITri.seq ?_
    refine ITri.block ?_ -- 1
    refine ITri.seq ?_
    refine ITri.one (P := Try.prog) [(0, .slice (some ⟨1, 0, none⟩) n c), (1, .int .i64 lot), (2, .int .i64 tool), (3, .int .i64 at'), (9, .int .i64 k), (56, .bool (metP lot tool at' (a1, a2, a3)))] ?_ ?_
    · unfold metP
      cases t1 : decide (a1 = at')
      · refine ITri.reg pokT ?_; simp -implicitDefEqProofs (disch := first | decide | exact of_eq_true (eq_true rfl) | omega | assumption) only [ga, gb, gc, t1, Bool.true_and, Bool.false_and,  ↓vcD, vcE, evs, evP, evB, intsOf, fillC, Value.cells, pt, List.append_nil, List.nil_append, List.cons_append, List.length_cons, List.length_nil, List.filter_nil, List.map_nil, ↓List.getElem?_cons_zero, ↓List.getElem?_cons_succ, List.getElem?_cons_zero, List.getElem?_cons_succ, List.set_cons_zero, List.set_cons_succ, Option.join_some, Option.join_none, Option.map_some, List.all_cons, List.all_nil, Value.oneCell', reduceIte, reduceCtorEq, Nat.reduceEqDiff, Nat.reduceAdd, Nat.reduceMul, Nat.reduceLT, Nat.reduceBEq, Nat.reduceLeDiff, Nat.reduceSub, List.size_toArray]
      cases t2 : decide (0 ≤ a2)
      · refine ITri.reg pokT ?_; simp -implicitDefEqProofs (disch := first | decide | exact of_eq_true (eq_true rfl) | omega | assumption) only [ga, gb, gc, t1, t2, Bool.true_and, Bool.false_and,  ↓vcD, vcE, evs, evP, evB, intsOf, fillC, Value.cells, pt, List.append_nil, List.nil_append, List.cons_append, List.length_cons, List.length_nil, List.filter_nil, List.map_nil, ↓List.getElem?_cons_zero, ↓List.getElem?_cons_succ, List.getElem?_cons_zero, List.getElem?_cons_succ, List.set_cons_zero, List.set_cons_succ, Option.join_some, Option.join_none, Option.map_some, List.all_cons, List.all_nil, Value.oneCell', reduceIte, reduceCtorEq, Nat.reduceEqDiff, Nat.reduceAdd, Nat.reduceMul, Nat.reduceLT, Nat.reduceBEq, Nat.reduceLeDiff, Nat.reduceSub, List.size_toArray]
      cases t3 : decide (lot < 0) <;> cases t4 : decide (a2 = lot) <;> cases t5 : decide (tool < 0) <;> cases t6 : decide (a3 = tool) <;>
      (refine ITri.reg pokT ?_; simp -implicitDefEqProofs (disch := first | decide | exact of_eq_true (eq_true rfl) | omega | assumption) only [ga, gb, gc, t1, t2, t3, t4, t5, t6, Bool.true_and, Bool.false_and, Bool.true_or, Bool.false_or, Bool.and_true, Bool.and_false,  ↓vcD, vcE, evs, evP, evB, intsOf, fillC, Value.cells, pt, List.append_nil, List.nil_append, List.cons_append, List.length_cons, List.length_nil, List.filter_nil, List.map_nil, ↓List.getElem?_cons_zero, ↓List.getElem?_cons_succ, List.getElem?_cons_zero, List.getElem?_cons_succ, List.set_cons_zero, List.set_cons_succ, Option.join_some, Option.join_none, Option.map_some, List.all_cons, List.all_nil, Value.oneCell', reduceIte, reduceCtorEq, Nat.reduceEqDiff, Nat.reduceAdd, Nat.reduceMul, Nat.reduceLT, Nat.reduceBEq, Nat.reduceLeDiff, Nat.reduceSub, List.size_toArray])
    refine ITri.cond (v := metP lot tool at' (a1, a2, a3)) rfl (fun h3 => ?_) (fun h3 => ?_)
    · have e1 : l.any (metP lot tool at') = true := List.any_eq_true.2 ⟨nth l k, nth_mem hkr, by rw [hab]; exact h3⟩
      rw [e1]
      refine ITri.seq ?_
      refine ITri.reg pokT ?_; simp -implicitDefEqProofs (disch := first | decide | exact of_eq_true (eq_true rfl) | omega | assumption) only [ ↓vcD, vcE, evs, evP, evB, intsOf, fillC, Value.cells, pt, List.append_nil, List.nil_append, List.cons_append, List.length_cons, List.length_nil, List.filter_nil, List.map_nil, ↓List.getElem?_cons_zero, ↓List.getElem?_cons_succ, List.getElem?_cons_zero, List.getElem?_cons_succ, List.set_cons_zero, List.set_cons_succ, Option.join_some, Option.join_none, Option.map_some, List.all_cons, List.all_nil, Value.oneCell', reduceIte, reduceCtorEq, Nat.reduceEqDiff, Nat.reduceAdd, Nat.reduceMul, Nat.reduceLT, Nat.reduceBEq, Nat.reduceLeDiff, Nat.reduceSub, List.size_toArray] -- r5
      refine ITri.ret ?_; exact EndR.plain (by simp) (by rfl) (by rfl) (by rfl)
    refine ITri.skip ?_; simp only [SeqQ_normal, BlkQ_normal]
    refine ITri.reg pokT ?_; simp -implicitDefEqProofs (disch := first | decide | exact of_eq_true (eq_true rfl) | omega | assumption) only [ ↓vcD, vcE, evs, evP, evB, intsOf, fillC, Value.cells, pt, List.append_nil, List.nil_append, List.cons_append, List.length_cons, List.length_nil, List.filter_nil, List.map_nil, ↓List.getElem?_cons_zero, ↓List.getElem?_cons_succ, List.getElem?_cons_zero, List.getElem?_cons_succ, List.set_cons_zero, List.set_cons_succ, Option.join_some, Option.join_none, Option.map_some, List.all_cons, List.all_nil, Value.oneCell', reduceIte, reduceCtorEq, Nat.reduceEqDiff, Nat.reduceAdd, Nat.reduceMul, Nat.reduceLT, Nat.reduceBEq, Nat.reduceLeDiff, Nat.reduceSub, List.size_toArray] -- r3
    exact LoopQ.next (k + 1) ⟨by omega, by rw [hstep]; exact h3⟩ (by omega) (Wk.sub ⟨rfl, rfl, rfl, rfl, rfl, trivial⟩)
  refine ITri.exit ?_; try simp -implicitDefEqProofs (disch := first | decide | exact of_eq_true (eq_true rfl) | omega | assumption) only [ ↓vcD, vcE, evs, evP, evB, intsOf, fillC, Value.cells, pt, List.append_nil, List.nil_append, List.cons_append, List.length_cons, List.length_nil, List.filter_nil, List.map_nil, ↓List.getElem?_cons_zero, ↓List.getElem?_cons_succ, List.getElem?_cons_zero, List.getElem?_cons_succ, List.set_cons_zero, List.set_cons_succ, Option.join_some, Option.join_none, Option.map_some, List.all_cons, List.all_nil, Value.oneCell', reduceIte, reduceCtorEq, Nat.reduceEqDiff, Nat.reduceAdd, Nat.reduceMul, Nat.reduceLT, Nat.reduceBEq, Nat.reduceLeDiff, Nat.reduceSub, List.size_toArray]
  have e1 : l.any (metP lot tool at') = false := by
    have : k = l.length := by omega
    rwa [this, List.take_length] at hno
  rw [e1]
  refine ITri.seq ?_
  refine ITri.reg pokT ?_; simp -implicitDefEqProofs (disch := first | decide | exact of_eq_true (eq_true rfl) | omega | assumption) only [ ↓vcD, vcE, evs, evP, evB, intsOf, fillC, Value.cells, pt, List.append_nil, List.nil_append, List.cons_append, List.length_cons, List.length_nil, List.filter_nil, List.map_nil, ↓List.getElem?_cons_zero, ↓List.getElem?_cons_succ, List.getElem?_cons_zero, List.getElem?_cons_succ, List.set_cons_zero, List.set_cons_succ, Option.join_some, Option.join_none, Option.map_some, List.all_cons, List.all_nil, Value.oneCell', reduceIte, reduceCtorEq, Nat.reduceEqDiff, Nat.reduceAdd, Nat.reduceMul, Nat.reduceLT, Nat.reduceBEq, Nat.reduceLeDiff, Nat.reduceSub, List.size_toArray] -- r6
  refine ITri.ret ?_; exact EndR.plain (by simp) (by rfl) (by rfl) (by rfl)
theorem met_f {n : Nat} {l : List Tc} (lot tool at' : Int) (hl : l.length = n) (hb : n ≤ 1000000) {h : AH} {s : Value} (h0 : h.sees 0 = true) (r : Rd h s n (rows eC l)) :
    Fc Try.prog 24 [s, .int .i64 lot, .int .i64 tool, .int .i64 at'] h (.bool (l.any (metP lot tool at'))) h :=
  Fc.lift1 (mk := fun ss => [] ++ ss ++ [.int .i64 lot, .int .i64 tool, .int .i64 at']) (mkv := fun _ => .bool (l.any (metP lot tool at'))) (os := []) (fun c => met_c n c l lot tool at' hl hb) (MkL.mid rfl rfl) (MkV.const rfl) (rows_no (f := eC) l) (fun o ho => by cases ho) h0 r
theorem earlier_c (n c d : Nat) (a b : List Int) (ha : a.length = n) (hb : n ≤ 1000000) (ht : TL b a) :
    Fc Try.prog 25 [.slice (some ⟨1, 0, none⟩) n c, .slice (some ⟨2, 0, none⟩) n d] (Hp 3 [none, some (.cells ⟨rows eN a, 0, false⟩), some (.cells ⟨rows eN b, 0, false⟩)]) (.bool true) (Hp 3 [none, some (.cells ⟨rows eN a, 0, false⟩), some (.cells ⟨rows eN b, 0, false⟩)]) := by
  have hlb := ht.len
  refine Fc.intro0 fn25 (by simp) rfl rfl ?_; simp only [argF]
  refine ITri.seq ?_
  refine ITri.reg pokT ?_; simp -implicitDefEqProofs (disch := first | decide | exact of_eq_true (eq_true rfl) | omega | assumption) only [ ↓vcD, vcE, evs, evP, evB, intsOf, fillC, Value.cells, pt, List.append_nil, List.nil_append, List.cons_append, List.length_cons, List.length_nil, List.filter_nil, List.map_nil, ↓List.getElem?_cons_zero, ↓List.getElem?_cons_succ, List.getElem?_cons_zero, List.getElem?_cons_succ, List.set_cons_zero, List.set_cons_succ, Option.join_some, Option.join_none, Option.map_some, List.all_cons, List.all_nil, Value.oneCell', reduceIte, reduceCtorEq, Nat.reduceEqDiff, Nat.reduceAdd, Nat.reduceMul, Nat.reduceLT, Nat.reduceBEq, Nat.reduceLeDiff, Nat.reduceSub, List.size_toArray] -- r0
  refine ITri.seq ?_
  refine ITri.seq ?_
  refine ITri.reg pokT ?_; simp -implicitDefEqProofs (disch := first | decide | exact of_eq_true (eq_true rfl) | omega | assumption) only [eq_self, not_true_eq_false, decide_false, decide_true, Bool.not_true,  ↓vcD, vcE, evs, evP, evB, intsOf, fillC, Value.cells, pt, List.append_nil, List.nil_append, List.cons_append, List.length_cons, List.length_nil, List.filter_nil, List.map_nil, ↓List.getElem?_cons_zero, ↓List.getElem?_cons_succ, List.getElem?_cons_zero, List.getElem?_cons_succ, List.set_cons_zero, List.set_cons_succ, Option.join_some, Option.join_none, Option.map_some, List.all_cons, List.all_nil, Value.oneCell', reduceIte, reduceCtorEq, Nat.reduceEqDiff, Nat.reduceAdd, Nat.reduceMul, Nat.reduceLT, Nat.reduceBEq, Nat.reduceLeDiff, Nat.reduceSub, List.size_toArray] -- r1
  refine ITri.cond (v := false) rfl (fun h => by cases h) (fun _ => ?_); refine ITri.skip ?_; simp only [SeqQ_normal, BlkQ_normal]
  refine ITri.seq ?_
  refine ITri.seq ?_
  refine ITri.reg pokT ?_; simp -implicitDefEqProofs (disch := first | decide | exact of_eq_true (eq_true rfl) | omega | assumption) only [ ↓vcD, vcE, evs, evP, evB, intsOf, fillC, Value.cells, pt, List.append_nil, List.nil_append, List.cons_append, List.length_cons, List.length_nil, List.filter_nil, List.map_nil, ↓List.getElem?_cons_zero, ↓List.getElem?_cons_succ, List.getElem?_cons_zero, List.getElem?_cons_succ, List.set_cons_zero, List.set_cons_succ, Option.join_some, Option.join_none, Option.map_some, List.all_cons, List.all_nil, Value.oneCell', reduceIte, reduceCtorEq, Nat.reduceEqDiff, Nat.reduceAdd, Nat.reduceMul, Nat.reduceLT, Nat.reduceBEq, Nat.reduceLeDiff, Nat.reduceSub, List.size_toArray] -- r3
  refine ITri.block ?_ -- 0
  refine ITri.loop (fun k : Nat => [(0, .slice (some ⟨1, 0, none⟩) n c), (1, .slice (some ⟨2, 0, none⟩) n d), (5, .int .i64 k)]) (fun _ => []) (fun k => Hp 3 [none, some (.cells ⟨rows eN a, 0, false⟩), some (.cells ⟨rows eN b, 0, false⟩)]) (fun k => k ≤ n) (fun k => n - k) 0 (Nat.zero_le _) (Wk.sub ⟨rfl, rfl, rfl, trivial⟩) fun k hk => ?_
  refine ITri.seq ?_
  refine ITri.seq ?_
  refine ITri.reg pokT ?_; simp -implicitDefEqProofs (disch := first | decide | exact of_eq_true (eq_true rfl) | omega | assumption) only [ ↓vcD, vcE, evs, evP, evB, intsOf, fillC, Value.cells, pt, List.append_nil, List.nil_append, List.cons_append, List.length_cons, List.length_nil, List.filter_nil, List.map_nil, ↓List.getElem?_cons_zero, ↓List.getElem?_cons_succ, List.getElem?_cons_zero, List.getElem?_cons_succ, List.set_cons_zero, List.set_cons_succ, Option.join_some, Option.join_none, Option.map_some, List.all_cons, List.all_nil, Value.oneCell', reduceIte, reduceCtorEq, Nat.reduceEqDiff, Nat.reduceAdd, Nat.reduceMul, Nat.reduceLT, Nat.reduceBEq, Nat.reduceLeDiff, Nat.reduceSub, List.size_toArray] -- r4
  refine ITri.condD (by rfl) (fun h1 => ?_) (fun h1 => ?_)
  · have ga : (rows eN a)[k]? = some (.int .i64 (nth a k)) := getN (by omega)
    have gb : (rows eN b)[k]? = some (.int .i64 (nth b k)) := getN (by omega)
    have hle := ht.le k (by omega)
    refine ITri.skip ?_; simp only [SeqQ_normal, BlkQ_normal]
    refine ITri.seq ?_
    refine ITri.block ?_ -- 1
    refine ITri.seq ?_
    by_cases g : 0 ≤ nth b k
    · have g1 : ¬ nth a k < 0 := by have := hle g; omega
      have g2 : ¬ nth b k < nth a k := by have := hle g; omega
      refine ITri.draw pokT ?_; simp -implicitDefEqProofs (disch := first | decide | exact of_eq_true (eq_true rfl) | omega | assumption) only [ga, gb, g, g1, g2, decide_true, decide_false,  ↓vcD, vcE, evs, evP, evB, intsOf, fillC, Value.cells, pt, List.append_nil, List.nil_append, List.cons_append, List.length_cons, List.length_nil, List.filter_nil, List.map_nil, ↓List.getElem?_cons_zero, ↓List.getElem?_cons_succ, List.getElem?_cons_zero, List.getElem?_cons_succ, List.set_cons_zero, List.set_cons_succ, Option.join_some, Option.join_none, Option.map_some, List.all_cons, List.all_nil, Value.oneCell', reduceIte, reduceCtorEq, Nat.reduceEqDiff, Nat.reduceAdd, Nat.reduceMul, Nat.reduceLT, Nat.reduceBEq, Nat.reduceLeDiff, Nat.reduceSub, List.size_toArray] -- r6
      refine ITri.cond (v := false) rfl (fun h => by cases h) (fun _ => ?_); refine ITri.skip ?_; simp only [SeqQ_normal, BlkQ_normal]
      refine ITri.reg pokT ?_; simp -implicitDefEqProofs (disch := first | decide | exact of_eq_true (eq_true rfl) | omega | assumption) only [ ↓vcD, vcE, evs, evP, evB, intsOf, fillC, Value.cells, pt, List.append_nil, List.nil_append, List.cons_append, List.length_cons, List.length_nil, List.filter_nil, List.map_nil, ↓List.getElem?_cons_zero, ↓List.getElem?_cons_succ, List.getElem?_cons_zero, List.getElem?_cons_succ, List.set_cons_zero, List.set_cons_succ, Option.join_some, Option.join_none, Option.map_some, List.all_cons, List.all_nil, Value.oneCell', reduceIte, reduceCtorEq, Nat.reduceEqDiff, Nat.reduceAdd, Nat.reduceMul, Nat.reduceLT, Nat.reduceBEq, Nat.reduceLeDiff, Nat.reduceSub, List.size_toArray] -- r5
      exact LoopQ.next (k + 1) (by omega) (by omega) (Wk.sub ⟨rfl, rfl, rfl, trivial⟩)
    · refine ITri.draw pokT ?_; simp -implicitDefEqProofs (disch := first | decide | exact of_eq_true (eq_true rfl) | omega | assumption) only [ga, gb, g, decide_true, decide_false,  ↓vcD, vcE, evs, evP, evB, intsOf, fillC, Value.cells, pt, List.append_nil, List.nil_append, List.cons_append, List.length_cons, List.length_nil, List.filter_nil, List.map_nil, ↓List.getElem?_cons_zero, ↓List.getElem?_cons_succ, List.getElem?_cons_zero, List.getElem?_cons_succ, List.set_cons_zero, List.set_cons_succ, Option.join_some, Option.join_none, Option.map_some, List.all_cons, List.all_nil, Value.oneCell', reduceIte, reduceCtorEq, Nat.reduceEqDiff, Nat.reduceAdd, Nat.reduceMul, Nat.reduceLT, Nat.reduceBEq, Nat.reduceLeDiff, Nat.reduceSub, List.size_toArray] -- r6
      refine ITri.cond (v := false) rfl (fun h => by cases h) (fun _ => ?_); refine ITri.skip ?_; simp only [SeqQ_normal, BlkQ_normal]
      refine ITri.reg pokT ?_; simp -implicitDefEqProofs (disch := first | decide | exact of_eq_true (eq_true rfl) | omega | assumption) only [ ↓vcD, vcE, evs, evP, evB, intsOf, fillC, Value.cells, pt, List.append_nil, List.nil_append, List.cons_append, List.length_cons, List.length_nil, List.filter_nil, List.map_nil, ↓List.getElem?_cons_zero, ↓List.getElem?_cons_succ, List.getElem?_cons_zero, List.getElem?_cons_succ, List.set_cons_zero, List.set_cons_succ, Option.join_some, Option.join_none, Option.map_some, List.all_cons, List.all_nil, Value.oneCell', reduceIte, reduceCtorEq, Nat.reduceEqDiff, Nat.reduceAdd, Nat.reduceMul, Nat.reduceLT, Nat.reduceBEq, Nat.reduceLeDiff, Nat.reduceSub, List.size_toArray] -- r5
      exact LoopQ.next (k + 1) (by omega) (by omega) (Wk.sub ⟨rfl, rfl, rfl, trivial⟩)
  refine ITri.exit ?_; try simp -implicitDefEqProofs (disch := first | decide | exact of_eq_true (eq_true rfl) | omega | assumption) only [ ↓vcD, vcE, evs, evP, evB, intsOf, fillC, Value.cells, pt, List.append_nil, List.nil_append, List.cons_append, List.length_cons, List.length_nil, List.filter_nil, List.map_nil, ↓List.getElem?_cons_zero, ↓List.getElem?_cons_succ, List.getElem?_cons_zero, List.getElem?_cons_succ, List.set_cons_zero, List.set_cons_succ, Option.join_some, Option.join_none, Option.map_some, List.all_cons, List.all_nil, Value.oneCell', reduceIte, reduceCtorEq, Nat.reduceEqDiff, Nat.reduceAdd, Nat.reduceMul, Nat.reduceLT, Nat.reduceBEq, Nat.reduceLeDiff, Nat.reduceSub, List.size_toArray]
  refine ITri.seq ?_
  refine ITri.reg pokT ?_; simp -implicitDefEqProofs (disch := first | decide | exact of_eq_true (eq_true rfl) | omega | assumption) only [ ↓vcD, vcE, evs, evP, evB, intsOf, fillC, Value.cells, pt, List.append_nil, List.nil_append, List.cons_append, List.length_cons, List.length_nil, List.filter_nil, List.map_nil, ↓List.getElem?_cons_zero, ↓List.getElem?_cons_succ, List.getElem?_cons_zero, List.getElem?_cons_succ, List.set_cons_zero, List.set_cons_succ, Option.join_some, Option.join_none, Option.map_some, List.all_cons, List.all_nil, Value.oneCell', reduceIte, reduceCtorEq, Nat.reduceEqDiff, Nat.reduceAdd, Nat.reduceMul, Nat.reduceLT, Nat.reduceBEq, Nat.reduceLeDiff, Nat.reduceSub, List.size_toArray] -- r8
  refine ITri.ret ?_; exact EndR.plain (by simp) (by rfl) (by rfl) (by rfl)
theorem earlier_f {n : Nat} {a b : List Int} (ha : a.length = n) (hb : n ≤ 1000000) (ht : TL b a) {h : AH} {s t : Value} (h0 : h.sees 0 = true) (r : Rd h s n (rows eN a)) (r2 : Rd h t n (rows eN b)) :
    Fc Try.prog 25 [s, t] h (.bool true) h :=
  Fc.lift2 (mk := fun ss => [] ++ ss ++ []) (mkv := fun _ => .bool true) (os := []) (fun c d => earlier_c n c d a b ha hb ht) (MkL.mid rfl rfl) (MkV.const rfl) (rows_no (f := eN) a) (rows_no (f := eN) b) (fun o ho => by cases ho) h0 r r2
end Go.Proofs.Ytfmcdbcoljpomaa
