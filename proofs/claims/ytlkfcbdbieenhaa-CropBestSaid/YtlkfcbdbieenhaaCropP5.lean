/-
  Chapter 7 by names: Proves.
-/
import Derived.Test.YtlkfcbdbieenhaaCropP4
import Derived.Test.YtlkfcbdbieenhaaCropP2
import Derived.Test.YtlkfcbdbieenhaaMh
set_option linter.unusedSimpArgs false
set_option linter.unusedVariables false
namespace Go.Proofs.Ytlkfcbdbieenhaa
open Go.RowKit Go.Vm
set_option maxRecDepth 100000

theorem blocks_f (k1 k2 k3 : Int) (n c k f : Nat) {h : AH} : Fc Try.prog 66 [bouV k1 k2 k3 (.slice (some ⟨k, 0, none⟩) n c), .int .i64 f] h (.func (.func 83) #[] #[pt (h.next + 1), pt h.next])
    (h.news [.cells ⟨[.int .i64 k1, .int .i64 k2, .int .i64 k3, .slice (some ⟨k, 0, none⟩) n c], 1, false⟩, .cells ⟨[.int .i64 f], 1, false⟩]) := by
  refine Fc.introX fn66 (by simp) (fun hw => news_grow hw _) ?_; simp only [argF]
  refine ITri.seq ?_
  refine ITri.reg pok ?_; simp -implicitDefEqProofs (disch := first | decide | exact of_eq_true (eq_true rfl) | omega | assumption) only [ ↓vcD, vcE, evs, evP, evB, intsOf, fillC, Value.cells, pt, List.append_nil, List.nil_append, List.cons_append, List.length_cons, List.length_nil, List.filter_nil, List.map_nil, ↓List.getElem?_cons_zero, ↓List.getElem?_cons_succ, List.getElem?_cons_zero, List.getElem?_cons_succ, List.set_cons_zero, List.set_cons_succ, Option.join_some, Option.join_none, Option.map_some, List.all_cons, List.all_nil, Value.oneCell', reduceIte, reduceCtorEq, Nat.reduceEqDiff, Nat.reduceAdd, Nat.reduceMul, Nat.reduceLT, Nat.reduceBEq, Nat.reduceLeDiff, Nat.reduceSub, List.size_toArray]
  refine ITri.seq ?_
  refine ITri.reg pok ?_; simp -implicitDefEqProofs (disch := first | decide | exact of_eq_true (eq_true rfl) | omega | assumption) only [ ↓vcD, vcE, evs, evP, evB, intsOf, fillC, Value.cells, pt, List.append_nil, List.nil_append, List.cons_append, List.length_cons, List.length_nil, List.filter_nil, List.map_nil, ↓List.getElem?_cons_zero, ↓List.getElem?_cons_succ, List.getElem?_cons_zero, List.getElem?_cons_succ, List.set_cons_zero, List.set_cons_succ, Option.join_some, Option.join_none, Option.map_some, List.all_cons, List.all_nil, Value.oneCell', reduceIte, reduceCtorEq, Nat.reduceEqDiff, Nat.reduceAdd, Nat.reduceMul, Nat.reduceLT, Nat.reduceBEq, Nat.reduceLeDiff, Nat.reduceSub, List.size_toArray]
  refine ITri.ret ?_
  exact EndX.mk (by simp) rfl rfl rfl
theorem okc_bool : okCell Try.prog 4 = true := by kernel_rfl
theorem okc_errno : okCell Try.prog 25 = true := by kernel_rfl

/- boule/crop.Proves · slots 70 · names 0:l 1:s 2:bounds 3:l 4:s 5:bounds 8:e 9:b 10:wrong 11:from 12:x 13:n · results [6, 7] -/
def ir34_r0 : IC := .reg [⟨some 4, none, false, .box (.t 1)⟩,
  ⟨some 5, none, false, .box (.t 2)⟩,
  ⟨some 6, none, false, .alloc [(.bool false)]⟩,
  ⟨some 7, none, false, .alloc [(.int .i64 0)]⟩] (some [0, 4, 5, 6, 7])
def ir34_r1 : IC := .reg [⟨some 14, none, false, .mv (.t 0)⟩,
  ⟨some 15, none, false, .lda 3 (.t 4)⟩,
  ⟨some 16, none, false, .call (.f 24) [(.t 14), (.t 15)]⟩,
  ⟨some 8, none, false, .mv (.t 16)⟩] (some [0, 4, 5, 6, 7, 8])
def ir34_r2 : IC := .reg [⟨some 17, none, false, .mv (.t 8)⟩,
  ⟨some 18, none, false, .cmp .neq (.t 17) (.k (.int .i64 0))⟩] (some [0, 4, 5, 6, 7, 8, 18])
def ir34_r3 : IC := .reg [⟨some 19, none, false, .mv (.t 8)⟩,
  ⟨none, none, false, .st 1 (.t 6) (.k (.bool false))⟩,
  ⟨none, none, false, .st 1 (.t 7) (.t 19)⟩] (some [6, 7])
def ir34_1 : IC := .seq ir34_r3 .ret
def ir34_2 : IC := .cond (.t 18) ir34_1 .skip
def ir34_3 : IC := .seq ir34_r2 ir34_2
def ir34_4 : IC := .seq ir34_r1 ir34_3
def ir34_r4 : IC := .reg [⟨some 20, none, false, .mv (.t 0)⟩,
  ⟨some 21, none, false, .lda 3 (.t 4)⟩,
  ⟨some 22, none, false, .call (.f 48) [(.t 20), (.t 21)]⟩,
  ⟨some 9, none, false, .alloc [(.int .i64 0), (.int .i64 0), (.int .i64 0), (.slice none 0 0)]⟩,
  ⟨none, none, false, .st 4 (.t 9) (.t 22)⟩] (some [5, 6, 7, 9])
def ir34_r5 : IC := .reg [⟨some 10, none, false, .mv (.f 64)⟩] (some [5, 6, 7, 9, 10])
def ir34_r6 : IC := .reg [⟨some 23, none, false, .ldc (.t 5)⟩,
  ⟨some 24, none, false, .len (.t 23)⟩,
  ⟨some 25, none, false, .fad 3 (.t 9)⟩,
  ⟨some 26, none, false, .ldc (.t 25)⟩,
  ⟨some 27, none, false, .len (.t 26)⟩,
  ⟨some 28, none, false, .ar .add (.t 27) (.k (.int .i64 1))⟩,
  ⟨some 29, none, false, .cmp .neq (.t 24) (.t 28)⟩,
  ⟨some 30, none, false, .mv (.t 29)⟩,
  ⟨some 31, some (30, false), false, .ldc (.t 5)⟩,
  ⟨some 32, some (30, false), false, .mv (.t 10)⟩,
  ⟨some 33, some (30, false), false, .call (.f 65) [(.t 31), (.t 32)]⟩,
  ⟨some 34, none, false, .pick (.t 30) (.k (.bool true)) (.t 33)⟩] (some [5, 6, 7, 9, 34])
def ir34_r7 : IC := .reg [⟨none, none, false, .st 1 (.t 6) (.k (.bool false))⟩,
  ⟨none, none, false, .st 1 (.t 7) (.k (.int .i64 0))⟩] (some [6, 7])
def ir34_5 : IC := .seq ir34_r7 .ret
def ir34_6 : IC := .cond (.t 34) ir34_5 .skip
def ir34_7 : IC := .seq ir34_r6 ir34_6
def ir34_r8 : IC := .reg [⟨some 35, none, false, .fad 3 (.t 9)⟩,
  ⟨some 36, none, false, .ldc (.t 35)⟩,
  ⟨some 37, none, false, .len (.t 36)⟩,
  ⟨some 38, none, false, .mv (.k (.int .i64 0))⟩] (some [5, 6, 7, 9, 37, 38])
def ir34_r9 : IC := .reg [⟨some 39, none, false, .cmp .lss (.t 38) (.t 37)⟩] (some [5, 6, 7, 9, 37, 38, 39])
def ir34_8 : IC := .cond (.t 39) .skip (.exit 0)
def ir34_r10 : IC := .reg [⟨some 40, none, false, .mv (.t 38)⟩,
  ⟨some 11, none, false, .alloc [(.int .i64 0)]⟩,
  ⟨none, none, false, .st 1 (.t 11) (.t 40)⟩] (some [5, 6, 7, 9, 11, 37, 38])
def ir34_r11 : IC := .draw [(⟨some 41, none, false, .ldc (.t 5)⟩, false, 0, 1),
  (⟨some 42, none, false, .ldc (.t 11)⟩, false, 0, 1),
  (⟨some 43, none, false, .iad 1 (.t 41) (.t 42)⟩, false, 3, 0),
  (⟨some 44, none, false, .ldc (.t 43)⟩, false, 7, 1),
  (⟨some 45, none, false, .ldc (.t 5)⟩, false, 0, 8),
  (⟨some 46, none, false, .ldc (.t 11)⟩, false, 0, 8),
  (⟨some 47, none, false, .ar .add (.t 46) (.k (.int .i64 1))⟩, false, 32, 0),
  (⟨some 48, none, false, .iad 1 (.t 45) (.t 47)⟩, false, 112, 0),
  (⟨some 49, none, false, .ldc (.t 48)⟩, false, 240, 8),
  (⟨some 50, none, false, .cmp .lss (.t 44) (.t 49)⟩, false, 511, 0)] (some [5, 6, 7, 9, 11, 37, 38, 50])
def ir34_r12 : IC := .reg [⟨none, none, false, .st 1 (.t 6) (.k (.bool false))⟩,
  ⟨none, none, false, .st 1 (.t 7) (.k (.int .i64 0))⟩] (some [6, 7])
def ir34_9 : IC := .seq ir34_r12 .ret
def ir34_10 : IC := .cond (.t 50) ir34_9 .skip
def ir34_11 : IC := .seq ir34_r11 ir34_10
def ir34_r13 : IC := .reg [⟨some 51, none, false, .lda 4 (.t 9)⟩,
  ⟨some 52, none, false, .ldc (.t 11)⟩,
  ⟨some 53, none, false, .call (.f 66) [(.t 51), (.t 52)]⟩] (some [5, 6, 7, 9, 11, 37, 38, 53])
def ir34_r14 : IC := .reg [⟨some 12, none, false, .alloc [(.int .i64 0), (.int .i64 0)]⟩,
  ⟨none, none, false, .st 2 (.t 12) (.t 54)⟩] (some [5, 6, 7, 9, 11, 12, 55])
def ir34_r15 : IC := .reg [⟨some 13, none, false, .mv (.t 55)⟩] (some [5, 6, 7, 9, 11, 12, 13])
def ir34_12 : IC := .seq ir34_r14 ir34_r15
def ir34_r16 : IC := .draw [(⟨some 56, none, false, .ldc (.t 5)⟩, false, 0, 1),
  (⟨some 57, none, false, .ldc (.t 11)⟩, false, 0, 1),
  (⟨some 58, none, false, .iad 1 (.t 56) (.t 57)⟩, false, 3, 0),
  (⟨some 59, none, false, .ldc (.t 58)⟩, false, 7, 1),
  (⟨some 60, none, false, .mv (.t 13)⟩, false, 0, 0),
  (⟨some 61, none, false, .ldc (.t 5)⟩, false, 0, 8),
  (⟨some 62, none, false, .lda 4 (.t 9)⟩, false, 0, 8),
  (⟨some 63, none, false, .lda 2 (.t 12)⟩, false, 0, 8),
  (⟨some 64, none, false, .call (.f 50) [(.t 62), (.t 63)]⟩, false, 192, 8),
  (⟨some 65, none, false, .iad 1 (.t 61) (.t 64)⟩, false, 480, 0),
  (⟨some 66, none, false, .ldc (.t 65)⟩, false, 992, 8),
  (⟨some 67, none, false, .ar .add (.t 60) (.t 66)⟩, false, 2032, 0),
  (⟨some 68, none, false, .cmp .lss (.t 59) (.t 67)⟩, false, 4095, 0)] (some [6, 7, 68])
def ir34_r17 : IC := .reg [⟨none, none, false, .st 1 (.t 6) (.k (.bool false))⟩,
  ⟨none, none, false, .st 1 (.t 7) (.k (.int .i64 0))⟩] (some [])
def ir34_13 : IC := .seq ir34_r17 .ret
def ir34_14 : IC := .cond (.t 68) ir34_13 .skip
def ir34_15 : IC := .seq ir34_r16 ir34_14
def ir34_16 : IC := .block 3 ir34_15
def ir34_17 : IC := .rf (.t 53) [54, 55] ir34_12 ir34_16 (some [5, 6, 7, 9, 37, 38])
def ir34_18 : IC := .block 2 ir34_17
def ir34_19 : IC := .seq ir34_r13 ir34_18
def ir34_20 : IC := .seq ir34_11 ir34_19
def ir34_21 : IC := .seq ir34_r10 ir34_20
def ir34_22 : IC := .block 1 ir34_21
def ir34_r18 : IC := .reg [⟨some 69, none, false, .ar .add (.t 38) (.k (.int .i64 1))⟩,
  ⟨some 38, none, false, .mv (.t 69)⟩] (some [5, 6, 7, 9, 37, 38])
def ir34_23 : IC := .seq ir34_22 ir34_r18
def ir34_24 : IC := .seq ir34_8 ir34_23
def ir34_25 : IC := .seq ir34_r9 ir34_24
def ir34_26 : IC := .loop ir34_25
def ir34_27 : IC := .block 0 ir34_26
def ir34_28 : IC := .seq ir34_r8 ir34_27
def ir34_r19 : IC := .reg [⟨none, none, false, .st 1 (.t 6) (.k (.bool true))⟩,
  ⟨none, none, false, .st 1 (.t 7) (.k (.int .i64 0))⟩] (some [6, 7])
def ir34_29 : IC := .seq ir34_r19 .ret
def ir34_30 : IC := .seq ir34_28 ir34_29
def ir34_31 : IC := .seq ir34_7 ir34_30
def ir34_32 : IC := .seq ir34_r5 ir34_31
def ir34_33 : IC := .seq ir34_r4 ir34_32
def ir34_34 : IC := .seq ir34_4 ir34_33
def ir34_35 : IC := .seq ir34_r0 ir34_34
def ir34 : IC := ir34_35
theorem fn34 : FnIs Try.prog 34 ir34 70 [.cell 6 4, .cell 7 25] := ⟨Try.f34, Try.f34.body.getD .skip, Try.func34, by kernel_rfl, by kernel_rfl, by kernel_rfl, by kernel_rfl⟩
abbrev pvM (l : List St) (bd : List Int) (nb cb : Nat) (k1 k2 k3 : Int) (b1 e1 : Value) (c : Nat) (T : List (Option AObj)) : AH := Hp 3 (none :: some (.cells ⟨rows eII l, 0, false⟩) :: some (.cells ⟨rows eI bd, 0, false⟩) :: some (.cells ⟨[.int .i64 k1, .int .i64 k2, .int .i64 k3], 1, false⟩) :: some (.cells ⟨[.slice (some ⟨2, 0, none⟩) nb cb], 1, false⟩) :: some (.cells ⟨[b1], 1, false⟩) :: some (.cells ⟨[e1], 1, false⟩) :: some (.cells ⟨rows eI (wF l), 1, true⟩) :: some (.cells ⟨[.int .i64 k1, .int .i64 k2, .int .i64 k3, .slice (some ⟨7, 0, none⟩) (wF l).length openB], 1, false⟩) :: (List.replicate c DT ++ T))

abbrev pvT (k : Nat) (kk1 kk2 kk3 : Int) (nw : Nat) : List (Option AObj) := [some (.cells ⟨[.int .i64 k], 1, false⟩), some (.cells ⟨[.int .i64 kk1, .int .i64 kk2, .int .i64 kk3, .slice (some ⟨7, 0, none⟩) nw openB], 1, false⟩), some (.cells ⟨[.int .i64 k], 1, false⟩), DT]
theorem pv_end (l : List St) (bd : List Int) (nb cb : Nat) (k1 k2 k3 : Int) (b : Bool) (e : Int) (k : Nat) (T : List (Option AObj)) {ex : AEx} {lf : Fr} (hex : ∀ id, ex ≠ .exit id) (h6 : lk lf 6 = some (pt 5)) (h7 : lk lf 7 = some (pt 6)) : EndM Try.prog [.cell 6 4, .cell 7 25] 3 [] (.tuple #[.bool b, .int .i64 e]) ex lf (marksN 9 k) (pvM l bd nb cb k1 k2 k3 (.bool b) (.int .i64 e) k T) :=
  ⟨_, aMarks_N k [_, _, _, _, _, _, _, _, _] T rfl (by omega), EndR.plain (vs := [.bool b, .int .i64 e]) hex (resF_cell h6 okc_bool (by simp -implicitDefEqProofs (disch := first | decide | exact of_eq_true (eq_true rfl) | omega | assumption) only [↓vcD, vcE, evs, evP, evB, intsOf, fillC, Value.cells, pt, List.append_nil, List.nil_append, List.cons_append, List.length_cons, List.length_nil, List.filter_nil, List.map_nil, ↓List.getElem?_cons_zero, ↓List.getElem?_cons_succ, List.getElem?_cons_zero, List.getElem?_cons_succ, List.set_cons_zero, List.set_cons_succ, Option.join_some, Option.join_none, Option.map_some, List.all_cons, List.all_nil, Value.oneCell', reduceIte, reduceCtorEq, Nat.reduceEqDiff, Nat.reduceAdd, Nat.reduceMul, Nat.reduceLT, Nat.reduceBEq, Nat.reduceLeDiff, Nat.reduceSub, List.size_toArray]) (resF_cell h7 okc_errno (by simp -implicitDefEqProofs (disch := first | decide | exact of_eq_true (eq_true rfl) | omega | assumption) only [↓vcD, vcE, evs, evP, evB, intsOf, fillC, Value.cells, pt, List.append_nil, List.nil_append, List.cons_append, List.length_cons, List.length_nil, List.filter_nil, List.map_nil, ↓List.getElem?_cons_zero, ↓List.getElem?_cons_succ, List.getElem?_cons_zero, List.getElem?_cons_succ, List.set_cons_zero, List.set_cons_succ, Option.join_some, Option.join_none, Option.map_some, List.all_cons, List.all_nil, Value.oneCell', reduceIte, reduceCtorEq, Nat.reduceEqDiff, Nat.reduceAdd, Nat.reduceMul, Nat.reduceLT, Nat.reduceBEq, Nat.reduceLeDiff, Nat.reduceSub, List.size_toArray]) resF_nil)) rfl rfl⟩
theorem pv_end2 (l : List St) (bd : List Int) (nb cb : Nat) (k1 k2 k3 : Int) (b : Bool) (e : Int) (k : Nat) (x y z w : Option AObj) {ex : AEx} {lf : Fr} (hex : ∀ id, ex ≠ .exit id) (h6 : lk lf 6 = some (pt 5)) (h7 : lk lf 7 = some (pt 6)) : EndM Try.prog [.cell 6 4, .cell 7 25] 3 [] (.tuple #[.bool b, .int .i64 e]) ex lf ((k + 12) :: marksN 9 k) (pvM l bd nb cb k1 k2 k3 (.bool b) (.int .i64 e) k [x, y, z, DT, w]) := by
  obtain ⟨h2, q1, q2⟩ := pv_end l bd nb cb k1 k2 k3 b e k [x, y, z, DF, w] hex h6 h7
  refine ⟨h2, ?_, q2⟩
  rw [← q1]
  have hg : (pvM l bd nb cb k1 k2 k3 (.bool b) (.int .i64 e) k [x, y, z, DT, w]).get (k + 12) = some (.deferred true) := by
    rw [Hp_get]
    simp only [↓rep_get, ↓rep_get0, rep_set, rep_set0, List.length_append, List.length_replicate, List.append_assoc, Nat.add_assoc, List.getElem?_cons_succ, List.getElem?_cons_zero, Option.join_some]
  simp only [aMarks, hg]
  rw [if_pos (by show 3 ≤ k + 12; omega), Hq_put _ _ (by simp)]
  simp only [List.set_cons_succ, rep_set, List.set_cons_zero]

theorem pvM_nil (l : List St) (bd : List Int) (nb cb : Nat) (k1 k2 k3 : Int) (b1 e1 : Value) (c : Nat) : pvM l bd nb cb k1 k2 k3 b1 e1 c [] = Hp 3 (none :: some (.cells ⟨rows eII l, 0, false⟩) :: some (.cells ⟨rows eI bd, 0, false⟩) :: some (.cells ⟨[.int .i64 k1, .int .i64 k2, .int .i64 k3], 1, false⟩) :: some (.cells ⟨[.slice (some ⟨2, 0, none⟩) nb cb], 1, false⟩) :: some (.cells ⟨[b1], 1, false⟩) :: some (.cells ⟨[e1], 1, false⟩) :: some (.cells ⟨rows eI (wF l), 1, true⟩) :: some (.cells ⟨[.int .i64 k1, .int .i64 k2, .int .i64 k3, .slice (some ⟨7, 0, none⟩) (wF l).length openB], 1, false⟩) :: List.replicate c DT) := by
  unfold pvM
  rw [List.append_nil]
section
variable (l : List St) (bd : List Int) (nb cb : Nat) (k1 k2 k3 : Int) (k : Nat)
abbrev pvOk (N : Nat) (x : Yd) : Bool := decide (x.2.2 + nth bd (min (x.2.1 + k3) N).toNat ≤ nth bd k)
abbrev pvF0 (N : Nat) : Fr := [(5, pt 4), (6, pt 5), (7, pt 6), (9, pt 8), (11, pt (k + 9)), (37, .int .i64 N), (38, .int .i64 k), (53, .func (.func 83) #[] #[pt (k + 11), pt (k + 10)])]
abbrev pvLo (N : Nat) (px : Array Tmp) (cx cy : Code) (st : LoopState) (pd : Option Code) : Option AObj := some (.loop ⟨st, pd, trOf (pvF0 k N), 70, px, cx, cy, k + 12⟩)
theorem pv_yield {px : Array Tmp} {cx cy : Code} (hpx : px.toList = [54, 55]) (hcx : rC Try.prog 70 cx = some ir34_12.er) (hcy : rC Try.prog 70 cy = some ir34_16.er) (hk : k < (wF l).length) (hN : (wF l).length ≤ 3000) (h3 : 0 ≤ k3 ∧ k3 ≤ 20)
    (hnb : bd.length = nb) (hnN : nb = (wF l).length + 1) (hbd : ∀ i, i ≤ (wF l).length → 0 ≤ nth bd i ∧ nth bd i ≤ 1000000000000000) (x : Yd) (hx : okY k (wF l).length x) :
    Yl Try.prog (k + 13) (ydV x) (pvM l bd nb cb k1 k2 k3 (.bool false) (.int .i64 0) k (pvT k k1 k2 k3 (wF l).length ++ [pvLo k (wF l).length px cx cy .ready none])) (.bool (pvOk bd k3 k (wF l).length x))
      (pvM l bd nb cb k1 k2 k3 (.bool false) (.int .i64 0) k (pvT k k1 k2 k3 (wF l).length ++ [if pvOk bd k3 k (wF l).length x then pvLo k (wF l).length px cx cy .ready none else pvLo k (wF l).length px cx cy .done (some .ret)])) := by
  obtain ⟨x1, x2, x3⟩ := x
  obtain ⟨q1, q2, q3, q4, q5⟩ := hx
  simp only at q1 q2 q3 q4 q5
  have hb2 := hbd (min (x2 + k3) (wF l).length).toNat (by omega)
  have hb1 := hbd k (by omega)
  have e9 : (min (x2 + k3) ((wF l).length : Int)).toNat < bd.length := by omega
  refine Yl.introI (dn := k + 12) (lf := pvF0 k (wF l).length) (pd := none) ?_ hpx hcx hcy rfl (by show 3 ≤ k + 13; omega) rfl (fun _ => grow_hq (by simp) (by simp)) ?_
  · rw [Hp_get]
    simp only [↓rep_get, ↓rep_get0, rep_set, rep_set0, List.length_append, List.length_replicate, List.append_assoc, Nat.add_assoc, List.cons_append, List.nil_append, List.getElem?_cons_succ, List.getElem?_cons_zero, Option.join_some]
  refine ITri.seq ?_
  refine ITri.reg pok ?_; simp -implicitDefEqProofs (disch := first | decide | exact of_eq_true (eq_true rfl) | omega | assumption) only [↓rep_get, ↓rep_get0, rep_set, rep_set0, List.length_append, List.length_replicate, List.append_assoc, Nat.add_assoc, List.cons_append,  ↓vcD, vcE, evs, evP, evB, intsOf, fillC, Value.cells, pt, List.append_nil, List.nil_append, List.cons_append, List.length_cons, List.length_nil, List.filter_nil, List.map_nil, ↓List.getElem?_cons_zero, ↓List.getElem?_cons_succ, List.getElem?_cons_zero, List.getElem?_cons_succ, List.set_cons_zero, List.set_cons_succ, Option.join_some, Option.join_none, Option.map_some, List.all_cons, List.all_nil, Value.oneCell', reduceIte, reduceCtorEq, Nat.reduceEqDiff, Nat.reduceAdd, Nat.reduceMul, Nat.reduceLT, Nat.reduceBEq, Nat.reduceLeDiff, Nat.reduceSub, List.size_toArray] -- r14
  refine ITri.reg pok ?_; simp -implicitDefEqProofs (disch := first | decide | exact of_eq_true (eq_true rfl) | omega | assumption) only [↓rep_get, ↓rep_get0, rep_set, rep_set0, List.length_append, List.length_replicate, List.append_assoc, Nat.add_assoc, List.cons_append,  ↓vcD, vcE, evs, evP, evB, intsOf, fillC, Value.cells, pt, List.append_nil, List.nil_append, List.cons_append, List.length_cons, List.length_nil, List.filter_nil, List.map_nil, ↓List.getElem?_cons_zero, ↓List.getElem?_cons_succ, List.getElem?_cons_zero, List.getElem?_cons_succ, List.set_cons_zero, List.set_cons_succ, Option.join_some, Option.join_none, Option.map_some, List.all_cons, List.all_nil, Value.oneCell', reduceIte, reduceCtorEq, Nat.reduceEqDiff, Nat.reduceAdd, Nat.reduceMul, Nat.reduceLT, Nat.reduceBEq, Nat.reduceLeDiff, Nat.reduceSub, List.size_toArray] -- r15
  refine ⟨rfl, ⟨.ready, none, trOf (pvF0 k (wF l).length), 70, px, cx, cy, k + 12⟩, ?_, rfl, ?_⟩
  · rw [Hp_get]
    simp only [↓rep_get, ↓rep_get0, rep_set, rep_set0, List.length_append, List.length_replicate, List.append_assoc, Nat.add_assoc, List.getElem?_cons_succ, List.getElem?_cons_zero, Option.join_some]
  rw [Hq_put _ _ (by simp)]
  simp only [List.set_cons_succ, rep_set, List.set_cons_zero]
  refine ITri.block ?_
  refine ITri.seq ?_
  refine ITri.draw pok ?_; simp -implicitDefEqProofs (disch := first | decide | exact of_eq_true (eq_true rfl) | omega | assumption) only [↓rep_get, ↓rep_get0, rep_set, rep_set0, List.length_append, List.length_replicate, List.append_assoc, Nat.add_assoc, getI, takeII,  ↓vcD, vcE, evs, evP, evB, intsOf, fillC, Value.cells, pt, List.append_nil, List.nil_append, List.cons_append, List.length_cons, List.length_nil, List.filter_nil, List.map_nil, ↓List.getElem?_cons_zero, ↓List.getElem?_cons_succ, List.getElem?_cons_zero, List.getElem?_cons_succ, List.set_cons_zero, List.set_cons_succ, Option.join_some, Option.join_none, Option.map_some, List.all_cons, List.all_nil, Value.oneCell', reduceIte, reduceCtorEq, Nat.reduceEqDiff, Nat.reduceAdd, Nat.reduceMul, Nat.reduceLT, Nat.reduceBEq, Nat.reduceLeDiff, Nat.reduceSub, List.size_toArray] -- r16
  refine ⟨_, _, behind_f k1 k2 k3 x1 x2 (wF l).length (rows eI (wF l)) (rows_no (f := eI) _) (by omega) (sees0 rfl (by simp)) (Rd.hq rfl rfl), ?_⟩
  simp -implicitDefEqProofs (disch := first | decide | exact of_eq_true (eq_true rfl) | omega | assumption) only [↓rep_get, ↓rep_get0, rep_set, rep_set0, List.length_append, List.length_replicate, List.append_assoc, Nat.add_assoc, getI,  ↓vcD, vcE, evs, evP, evB, intsOf, fillC, Value.cells, pt, List.append_nil, List.nil_append, List.cons_append, List.length_cons, List.length_nil, List.filter_nil, List.map_nil, ↓List.getElem?_cons_zero, ↓List.getElem?_cons_succ, List.getElem?_cons_zero, List.getElem?_cons_succ, List.set_cons_zero, List.set_cons_succ, Option.join_some, Option.join_none, Option.map_some, List.all_cons, List.all_nil, Value.oneCell', reduceIte, reduceCtorEq, Nat.reduceEqDiff, Nat.reduceAdd, Nat.reduceMul, Nat.reduceLT, Nat.reduceBEq, Nat.reduceLeDiff, Nat.reduceSub, List.size_toArray]
  have hgo : ∀ {st pd}, (pvM l bd nb cb k1 k2 k3 (.bool false) (.int .i64 0) k (pvT k k1 k2 k3 (wF l).length ++ [pvLo k (wF l).length px cx cy st pd])).get (k + 13) = some (.loop ⟨st, pd, trOf (pvF0 k (wF l).length), 70, px, cx, cy, k + 12⟩) := fun {st pd} => by
    rw [Hp_get]
    simp only [↓rep_get, ↓rep_get0, rep_set, rep_set0, List.length_append, List.length_replicate, List.append_assoc, Nat.add_assoc, List.cons_append, List.nil_append, List.getElem?_cons_succ, List.getElem?_cons_zero, Option.join_some]
  have hcl : clL (k + 14) (none :: some (.cells ⟨rows eII l, 0, false⟩) :: some (.cells ⟨rows eI bd, 0, false⟩) :: some (.cells ⟨[.int .i64 k1, .int .i64 k2, .int .i64 k3], 1, false⟩) :: some (.cells ⟨[.slice (some ⟨2, 0, none⟩) nb cb], 1, false⟩) :: some (.cells ⟨[.bool false], 1, false⟩) :: some (.cells ⟨[.int .i64 0], 1, false⟩) :: some (.cells ⟨rows eI (wF l), 1, true⟩) :: some (.cells ⟨[.int .i64 k1, .int .i64 k2, .int .i64 k3, .slice (some ⟨7, 0, none⟩) (wF l).length openB], 1, false⟩) :: (List.replicate k DT ++ (pvT k k1 k2 k3 (wF l).length ++ [pvLo k (wF l).length px cx cy .busy none]))) := by
    simp only [clL, clL_app, clL_rep, clO, okML_rows, okML, okM, okMA, okP, okS, and_true, true_and]
    refine ⟨by omega, by omega, by omega, ⟨_, rfl, ?_⟩, by omega⟩
    simp only [okFr, pt, okM, okMA, okML, okP, okFB, and_true, true_and]
    omega
  have hend : ∀ {ms : List Nat} {st pd}, ({ state := st, pending := pd, t := trOf (pvF0 k (wF l).length), nt := 70, params := px, assign := cx, body := cy, defers := k + 12 } : ALoop) = ⟨st, pd, trOf (pvF0 k (wF l).length), 70, px, cx, cy, k + 12⟩ := rfl
  have hput : ∀ {st pd}, (pvM l bd nb cb k1 k2 k3 (.bool false) (.int .i64 0) k (pvT k k1 k2 k3 (wF l).length ++ [pvLo k (wF l).length px cx cy .busy none])).put (k + 13) (pvLo k (wF l).length px cx cy st pd) = pvM l bd nb cb k1 k2 k3 (.bool false) (.int .i64 0) k (pvT k k1 k2 k3 (wF l).length ++ [pvLo k (wF l).length px cx cy st pd]) := fun {st pd} => by
    rw [Hq_put _ _ (by simp)]
    simp only [↓rep_get, ↓rep_get0, rep_set, rep_set0, List.length_append, List.length_replicate, List.append_assoc, Nat.add_assoc, List.cons_append, List.nil_append, List.set_cons_succ, List.set_cons_zero]
  refine ITri.condD (by rfl) (fun h6 => ?_) (fun h6 => ?_)
  · have e0 : pvOk bd k3 k (wF l).length (x1, x2, x3) = false := by simp; omega
    refine ITri.seq ?_
    refine ITri.reg pok ?_; simp -implicitDefEqProofs (disch := first | decide | exact of_eq_true (eq_true rfl) | omega | assumption) only [↓rep_get, ↓rep_get0, rep_set, rep_set0, List.length_append, List.length_replicate, List.append_assoc, Nat.add_assoc,  ↓vcD, vcE, evs, evP, evB, intsOf, fillC, Value.cells, pt, List.append_nil, List.nil_append, List.cons_append, List.length_cons, List.length_nil, List.filter_nil, List.map_nil, ↓List.getElem?_cons_zero, ↓List.getElem?_cons_succ, List.getElem?_cons_zero, List.getElem?_cons_succ, List.set_cons_zero, List.set_cons_succ, Option.join_some, Option.join_none, Option.map_some, List.all_cons, List.all_nil, Value.oneCell', reduceIte, reduceCtorEq, Nat.reduceEqDiff, Nat.reduceAdd, Nat.reduceMul, Nat.reduceLT, Nat.reduceBEq, Nat.reduceLeDiff, Nat.reduceSub, List.size_toArray]
    refine ITri.weak (Wk.tail (L := _ :: _ :: _ :: _ :: _ :: _ :: _ :: _ :: _ :: (List.replicate k DT ++ (pvT k k1 k2 k3 (wF l).length ++ [pvLo k (wF l).length px cx cy .busy none]))) (l2 := []) (T := [some (.cells ⟨[.int .i64 x1, .int .i64 x2], 1, false⟩)]) (by simp only [List.cons_append, List.append_assoc, List.nil_append]; rfl) (by omega) (by simp) (by simpa using hcl) trivial (fun j hj => by injection hj with hj; omega) (fun _ h => by cases h)) ?_
    refine ITri.ret ?_
    rw [e0]
    exact ⟨_, hgo, rfl, hput.symm⟩
  have e0 : pvOk bd k3 k (wF l).length (x1, x2, x3) = true := by simp; omega
  refine ITri.weak (Wk.tail (L := _ :: _ :: _ :: _ :: _ :: _ :: _ :: _ :: _ :: (List.replicate k DT ++ (pvT k k1 k2 k3 (wF l).length ++ [pvLo k (wF l).length px cx cy .busy none]))) (l2 := []) (T := [some (.cells ⟨[.int .i64 x1, .int .i64 x2], 1, false⟩)]) (by simp only [List.cons_append, List.append_assoc, List.nil_append]; rfl) (by omega) (by simp) (by simpa using hcl) trivial (fun j hj => by injection hj with hj; omega) (fun _ h => by cases h)) ?_
  refine ITri.skip ?_
  rw [e0]
  exact ⟨_, hgo, rfl, hput.symm⟩
end
theorem proves_c (n cl : Nat) (l : List St) (k1 k2 k3 : Int) (nb cb : Nat) (bd : List Int) (hn : l.length = n) (hb : n ≤ 1000000) (hnb : bd.length = nb) (hbb : nb ≤ 1000000) :
    Fc Try.prog 34 [s1 n cl, sawV k1 k2 k3, .slice (some ⟨2, 0, none⟩) nb cb] (Hp 3 [none, some (.cells ⟨rows eII l, 0, false⟩), some (.cells ⟨rows eI bd, 0, false⟩)]) (.tuple #[.bool (provesF l k1 k2 k3 bd), .int .i64 (checkF l (k1, k2, k3))]) (Hp 3 [none, some (.cells ⟨rows eII l, 0, false⟩), some (.cells ⟨rows eI bd, 0, false⟩)]) := by
  refine Fc.introM (os := []) fn34 (by simp) rfl rfl ?_; simp only [argF]
  refine ITri.seq ?_
  refine ITri.reg pok ?_; simp -implicitDefEqProofs (disch := first | decide | exact of_eq_true (eq_true rfl) | omega | assumption) only [ ↓vcD, vcE, evs, evP, evB, intsOf, fillC, Value.cells, pt, List.append_nil, List.nil_append, List.cons_append, List.length_cons, List.length_nil, List.filter_nil, List.map_nil, ↓List.getElem?_cons_zero, ↓List.getElem?_cons_succ, List.getElem?_cons_zero, List.getElem?_cons_succ, List.set_cons_zero, List.set_cons_succ, Option.join_some, Option.join_none, Option.map_some, List.all_cons, List.all_nil, Value.oneCell', reduceIte, reduceCtorEq, Nat.reduceEqDiff, Nat.reduceAdd, Nat.reduceMul, Nat.reduceLT, Nat.reduceBEq, Nat.reduceLeDiff, Nat.reduceSub, List.size_toArray] -- r0 crop.go:210
  refine ITri.seq ?_
  refine ITri.seq ?_
  refine ITri.reg pok ?_; simp -implicitDefEqProofs (disch := first | decide | exact of_eq_true (eq_true rfl) | omega | assumption) only [ ↓vcD, vcE, evs, evP, evB, intsOf, fillC, Value.cells, pt, List.append_nil, List.nil_append, List.cons_append, List.length_cons, List.length_nil, List.filter_nil, List.map_nil, ↓List.getElem?_cons_zero, ↓List.getElem?_cons_succ, List.getElem?_cons_zero, List.getElem?_cons_succ, List.set_cons_zero, List.set_cons_succ, Option.join_some, Option.join_none, Option.map_some, List.all_cons, List.all_nil, Value.oneCell', reduceIte, reduceCtorEq, Nat.reduceEqDiff, Nat.reduceAdd, Nat.reduceMul, Nat.reduceLT, Nat.reduceBEq, Nat.reduceLeDiff, Nat.reduceSub, List.size_toArray] -- r1 crop.go:211 CALLS .call F24 [%14, %15]
  refine ⟨_, _, check_f n l k1 k2 k3 hn hb (sees0 rfl (of_decide_eq_true rfl)) (Rd.hq rfl rfl), ?_⟩
  try simp -implicitDefEqProofs (disch := first | decide | exact of_eq_true (eq_true rfl) | omega | assumption) only [ ↓vcD, vcE, evs, evP, evB, intsOf, fillC, Value.cells, pt, List.append_nil, List.nil_append, List.cons_append, List.length_cons, List.length_nil, List.filter_nil, List.map_nil, ↓List.getElem?_cons_zero, ↓List.getElem?_cons_succ, List.getElem?_cons_zero, List.getElem?_cons_succ, List.set_cons_zero, List.set_cons_succ, Option.join_some, Option.join_none, Option.map_some, List.all_cons, List.all_nil, Value.oneCell', reduceIte, reduceCtorEq, Nat.reduceEqDiff, Nat.reduceAdd, Nat.reduceMul, Nat.reduceLT, Nat.reduceBEq, Nat.reduceLeDiff, Nat.reduceSub, List.size_toArray]
  refine ITri.seq ?_
  refine ITri.reg pok ?_; simp -implicitDefEqProofs (disch := first | decide | exact of_eq_true (eq_true rfl) | omega | assumption) only [ ↓vcD, vcE, evs, evP, evB, intsOf, fillC, Value.cells, pt, List.append_nil, List.nil_append, List.cons_append, List.length_cons, List.length_nil, List.filter_nil, List.map_nil, ↓List.getElem?_cons_zero, ↓List.getElem?_cons_succ, List.getElem?_cons_zero, List.getElem?_cons_succ, List.set_cons_zero, List.set_cons_succ, Option.join_some, Option.join_none, Option.map_some, List.all_cons, List.all_nil, Value.oneCell', reduceIte, reduceCtorEq, Nat.reduceEqDiff, Nat.reduceAdd, Nat.reduceMul, Nat.reduceLT, Nat.reduceBEq, Nat.reduceLeDiff, Nat.reduceSub, List.size_toArray] -- r2 crop.go:211
  refine ITri.condN (by rfl) (fun h1 => ?_) (fun h1 => ?_) -- %18
  · have e0 : provesF l k1 k2 k3 bd = false := by unfold provesF; rw [decide_eq_false h1, Bool.false_and]
    refine ITri.seq ?_
    refine ITri.reg pok ?_; simp -implicitDefEqProofs (disch := first | decide | exact of_eq_true (eq_true rfl) | omega | assumption) only [ ↓vcD, vcE, evs, evP, evB, intsOf, fillC, Value.cells, pt, List.append_nil, List.nil_append, List.cons_append, List.length_cons, List.length_nil, List.filter_nil, List.map_nil, ↓List.getElem?_cons_zero, ↓List.getElem?_cons_succ, List.getElem?_cons_zero, List.getElem?_cons_succ, List.set_cons_zero, List.set_cons_succ, Option.join_some, Option.join_none, Option.map_some, List.all_cons, List.all_nil, Value.oneCell', reduceIte, reduceCtorEq, Nat.reduceEqDiff, Nat.reduceAdd, Nat.reduceMul, Nat.reduceLT, Nat.reduceBEq, Nat.reduceLeDiff, Nat.reduceSub, List.size_toArray] -- r3 crop.go:212
    refine ITri.ret ?_; exact ⟨_, rfl, EndR.plain (vs := [.bool false, .int .i64 (checkF l (k1, k2, k3))]) (by simp) (resF_cell rfl okc_bool (by simp -implicitDefEqProofs (disch := first | decide | exact of_eq_true (eq_true rfl) | omega | assumption) only [↓vcD, vcE, evs, evP, evB, intsOf, fillC, Value.cells, pt, List.append_nil, List.nil_append, List.cons_append, List.length_cons, List.length_nil, List.filter_nil, List.map_nil, ↓List.getElem?_cons_zero, ↓List.getElem?_cons_succ, List.getElem?_cons_zero, List.getElem?_cons_succ, List.set_cons_zero, List.set_cons_succ, Option.join_some, Option.join_none, Option.map_some, List.all_cons, List.all_nil, Value.oneCell', reduceIte, reduceCtorEq, Nat.reduceEqDiff, Nat.reduceAdd, Nat.reduceMul, Nat.reduceLT, Nat.reduceBEq, Nat.reduceLeDiff, Nat.reduceSub, List.size_toArray]) (resF_cell rfl okc_errno (by simp -implicitDefEqProofs (disch := first | decide | exact of_eq_true (eq_true rfl) | omega | assumption) only [↓vcD, vcE, evs, evP, evB, intsOf, fillC, Value.cells, pt, List.append_nil, List.nil_append, List.cons_append, List.length_cons, List.length_nil, List.filter_nil, List.map_nil, ↓List.getElem?_cons_zero, ↓List.getElem?_cons_succ, List.getElem?_cons_zero, List.getElem?_cons_succ, List.set_cons_zero, List.set_cons_succ, Option.join_some, Option.join_none, Option.map_some, List.all_cons, List.all_nil, Value.oneCell', reduceIte, reduceCtorEq, Nat.reduceEqDiff, Nat.reduceAdd, Nat.reduceMul, Nat.reduceLT, Nat.reduceBEq, Nat.reduceLeDiff, Nat.reduceSub, List.size_toArray]) resF_nil)) (by rw [e0]; rfl) (by rfl)⟩
  have hok := checkF_ok h1
  have hwl := wF_len l hok.2.1
  refine ITri.skip ?_; simp only [SeqQ_normal, BlkQ_normal]
  refine ITri.seq ?_
  refine ITri.reg pok ?_; simp -implicitDefEqProofs (disch := first | decide | exact of_eq_true (eq_true rfl) | omega | assumption) only [ ↓vcD, vcE, evs, evP, evB, intsOf, fillC, Value.cells, pt, List.append_nil, List.nil_append, List.cons_append, List.length_cons, List.length_nil, List.filter_nil, List.map_nil, ↓List.getElem?_cons_zero, ↓List.getElem?_cons_succ, List.getElem?_cons_zero, List.getElem?_cons_succ, List.set_cons_zero, List.set_cons_succ, Option.join_some, Option.join_none, Option.map_some, List.all_cons, List.all_nil, Value.oneCell', reduceIte, reduceCtorEq, Nat.reduceEqDiff, Nat.reduceAdd, Nat.reduceMul, Nat.reduceLT, Nat.reduceBEq, Nat.reduceLeDiff, Nat.reduceSub, List.size_toArray] -- r4 crop.go:214 CALLS .call F48 [%20, %21]
  refine ⟨_, _, newBoule_f n l k1 k2 k3 hn (by omega) hok.2.1 (sees0 rfl (of_decide_eq_true rfl)) (Rd.hq rfl rfl), ?_⟩
  try simp -implicitDefEqProofs (disch := first | decide | exact of_eq_true (eq_true rfl) | omega | assumption) only [ ↓vcD, vcE, evs, evP, evB, intsOf, fillC, Value.cells, pt, List.append_nil, List.nil_append, List.cons_append, List.length_cons, List.length_nil, List.filter_nil, List.map_nil, ↓List.getElem?_cons_zero, ↓List.getElem?_cons_succ, List.getElem?_cons_zero, List.getElem?_cons_succ, List.set_cons_zero, List.set_cons_succ, Option.join_some, Option.join_none, Option.map_some, List.all_cons, List.all_nil, Value.oneCell', reduceIte, reduceCtorEq, Nat.reduceEqDiff, Nat.reduceAdd, Nat.reduceMul, Nat.reduceLT, Nat.reduceBEq, Nat.reduceLeDiff, Nat.reduceSub, List.size_toArray]
  refine ITri.seq ?_
  refine ITri.reg pok ?_; simp -implicitDefEqProofs (disch := first | decide | exact of_eq_true (eq_true rfl) | omega | assumption) only [ ↓vcD, vcE, evs, evP, evB, intsOf, fillC, Value.cells, pt, List.append_nil, List.nil_append, List.cons_append, List.length_cons, List.length_nil, List.filter_nil, List.map_nil, ↓List.getElem?_cons_zero, ↓List.getElem?_cons_succ, List.getElem?_cons_zero, List.getElem?_cons_succ, List.set_cons_zero, List.set_cons_succ, Option.join_some, Option.join_none, Option.map_some, List.all_cons, List.all_nil, Value.oneCell', reduceIte, reduceCtorEq, Nat.reduceEqDiff, Nat.reduceAdd, Nat.reduceMul, Nat.reduceLT, Nat.reduceBEq, Nat.reduceLeDiff, Nat.reduceSub, List.size_toArray] -- r5 crop.go:215
  have hWR := wrong_f
  have eN : ∀ {A B : Int}, (A ≠ B) = ¬ (A = B) := rfl
  refine ITri.seq ?_
  refine ITri.seq ?_
  by_cases h2 : (nb : Int) = ((wF l).length : Int) + 1
  rotate_left
  · have e0 : provesF l k1 k2 k3 bd = false := by
      unfold provesF pvF
      rw [decide_eq_false (show ¬ bd.length = (wF l).length + 1 by omega)]
      simp
    refine ITri.reg pok ?_; simp -implicitDefEqProofs (disch := first | decide | exact of_eq_true (eq_true rfl) | omega | assumption) only [h2, decide_false, Bool.not_false,  ↓vcD, vcE, evs, evP, evB, intsOf, fillC, Value.cells, pt, List.append_nil, List.nil_append, List.cons_append, List.length_cons, List.length_nil, List.filter_nil, List.map_nil, ↓List.getElem?_cons_zero, ↓List.getElem?_cons_succ, List.getElem?_cons_zero, List.getElem?_cons_succ, List.set_cons_zero, List.set_cons_succ, Option.join_some, Option.join_none, Option.map_some, List.all_cons, List.all_nil, Value.oneCell', reduceIte, reduceCtorEq, Nat.reduceEqDiff, Nat.reduceAdd, Nat.reduceMul, Nat.reduceLT, Nat.reduceBEq, Nat.reduceLeDiff, Nat.reduceSub, List.size_toArray] -- r6
    refine ITri.cond (v := true) rfl (fun _ => ?_) (fun h => by cases h)
    refine ITri.seq ?_
    refine ITri.reg pok ?_; simp -implicitDefEqProofs (disch := first | decide | exact of_eq_true (eq_true rfl) | omega | assumption) only [ ↓vcD, vcE, evs, evP, evB, intsOf, fillC, Value.cells, pt, List.append_nil, List.nil_append, List.cons_append, List.length_cons, List.length_nil, List.filter_nil, List.map_nil, ↓List.getElem?_cons_zero, ↓List.getElem?_cons_succ, List.getElem?_cons_zero, List.getElem?_cons_succ, List.set_cons_zero, List.set_cons_succ, Option.join_some, Option.join_none, Option.map_some, List.all_cons, List.all_nil, Value.oneCell', reduceIte, reduceCtorEq, Nat.reduceEqDiff, Nat.reduceAdd, Nat.reduceMul, Nat.reduceLT, Nat.reduceBEq, Nat.reduceLeDiff, Nat.reduceSub, List.size_toArray] -- r7 crop.go:217
    refine ITri.ret ?_; exact ⟨_, rfl, EndR.plain (vs := [.bool false, .int .i64 0]) (by simp) (resF_cell rfl okc_bool (by simp -implicitDefEqProofs (disch := first | decide | exact of_eq_true (eq_true rfl) | omega | assumption) only [↓vcD, vcE, evs, evP, evB, intsOf, fillC, Value.cells, pt, List.append_nil, List.nil_append, List.cons_append, List.length_cons, List.length_nil, List.filter_nil, List.map_nil, ↓List.getElem?_cons_zero, ↓List.getElem?_cons_succ, List.getElem?_cons_zero, List.getElem?_cons_succ, List.set_cons_zero, List.set_cons_succ, Option.join_some, Option.join_none, Option.map_some, List.all_cons, List.all_nil, Value.oneCell', reduceIte, reduceCtorEq, Nat.reduceEqDiff, Nat.reduceAdd, Nat.reduceMul, Nat.reduceLT, Nat.reduceBEq, Nat.reduceLeDiff, Nat.reduceSub, List.size_toArray]) (resF_cell rfl okc_errno (by simp -implicitDefEqProofs (disch := first | decide | exact of_eq_true (eq_true rfl) | omega | assumption) only [↓vcD, vcE, evs, evP, evB, intsOf, fillC, Value.cells, pt, List.append_nil, List.nil_append, List.cons_append, List.length_cons, List.length_nil, List.filter_nil, List.map_nil, ↓List.getElem?_cons_zero, ↓List.getElem?_cons_succ, List.getElem?_cons_zero, List.getElem?_cons_succ, List.set_cons_zero, List.set_cons_succ, Option.join_some, Option.join_none, Option.map_some, List.all_cons, List.all_nil, Value.oneCell', reduceIte, reduceCtorEq, Nat.reduceEqDiff, Nat.reduceAdd, Nat.reduceMul, Nat.reduceLT, Nat.reduceBEq, Nat.reduceLeDiff, Nat.reduceSub, List.size_toArray]) resF_nil)) (by rw [e0, h1]; rfl) (by rfl)⟩
  refine ITri.reg pok ?_; simp -implicitDefEqProofs (disch := first | decide | exact of_eq_true (eq_true rfl) | omega | assumption) only [h2, decide_true, Bool.not_true,  ↓vcD, vcE, evs, evP, evB, intsOf, fillC, Value.cells, pt, List.append_nil, List.nil_append, List.cons_append, List.length_cons, List.length_nil, List.filter_nil, List.map_nil, ↓List.getElem?_cons_zero, ↓List.getElem?_cons_succ, List.getElem?_cons_zero, List.getElem?_cons_succ, List.set_cons_zero, List.set_cons_succ, Option.join_some, Option.join_none, Option.map_some, List.all_cons, List.all_nil, Value.oneCell', reduceIte, reduceCtorEq, Nat.reduceEqDiff, Nat.reduceAdd, Nat.reduceMul, Nat.reduceLT, Nat.reduceBEq, Nat.reduceLeDiff, Nat.reduceSub, List.size_toArray] -- r6
  refine ⟨_, _, containsI_f 64 (fun x => decide ¬(0 ≤ x ∧ x ≤ 1000000000000000)) (fun x h h0 => wrong_f x h0) nb bd hnb hbb (sees0 rfl (of_decide_eq_true rfl)) (Rd.hq rfl rfl), ?_⟩
  try simp -implicitDefEqProofs (disch := first | decide | exact of_eq_true (eq_true rfl) | omega | assumption) only [ ↓vcD, vcE, evs, evP, evB, intsOf, fillC, Value.cells, pt, List.append_nil, List.nil_append, List.cons_append, List.length_cons, List.length_nil, List.filter_nil, List.map_nil, ↓List.getElem?_cons_zero, ↓List.getElem?_cons_succ, List.getElem?_cons_zero, List.getElem?_cons_succ, List.set_cons_zero, List.set_cons_succ, Option.join_some, Option.join_none, Option.map_some, List.all_cons, List.all_nil, Value.oneCell', reduceIte, reduceCtorEq, Nat.reduceEqDiff, Nat.reduceAdd, Nat.reduceMul, Nat.reduceLT, Nat.reduceBEq, Nat.reduceLeDiff, Nat.reduceSub, List.size_toArray]
  have ean : bd.any (fun x => decide ¬(0 ≤ x ∧ x ≤ 1000000000000000)) = true ↔ ¬ ∀ x ∈ bd, 0 ≤ x ∧ x ≤ 1000000000000000 := by
    simp only [List.any_eq_true, decide_eq_true_eq]
    constructor
    · rintro ⟨x, hx, h⟩ h2
      exact h (h2 x hx)
    · intro h
      apply Classical.byContradiction
      intro h3
      exact h fun x hx => Classical.byContradiction fun h4 => h3 ⟨x, hx, h4⟩
  refine ITri.condP (by rfl) ean (fun h3 => ?_) (fun h3 => ?_) -- %34
  · have e0 : provesF l k1 k2 k3 bd = false := by
      cases he : provesF l k1 k2 k3 bd with
      | false => rfl
      | true =>
        unfold provesF at he
        rw [Bool.and_eq_true] at he
        exact absurd (pvF_iff.1 he.2).2.1 h3
    refine ITri.seq ?_
    refine ITri.reg pok ?_; simp -implicitDefEqProofs (disch := first | decide | exact of_eq_true (eq_true rfl) | omega | assumption) only [ ↓vcD, vcE, evs, evP, evB, intsOf, fillC, Value.cells, pt, List.append_nil, List.nil_append, List.cons_append, List.length_cons, List.length_nil, List.filter_nil, List.map_nil, ↓List.getElem?_cons_zero, ↓List.getElem?_cons_succ, List.getElem?_cons_zero, List.getElem?_cons_succ, List.set_cons_zero, List.set_cons_succ, Option.join_some, Option.join_none, Option.map_some, List.all_cons, List.all_nil, Value.oneCell', reduceIte, reduceCtorEq, Nat.reduceEqDiff, Nat.reduceAdd, Nat.reduceMul, Nat.reduceLT, Nat.reduceBEq, Nat.reduceLeDiff, Nat.reduceSub, List.size_toArray] -- r7 crop.go:217
    refine ITri.ret ?_; exact ⟨_, rfl, EndR.plain (vs := [.bool false, .int .i64 0]) (by simp) (resF_cell rfl okc_bool (by simp -implicitDefEqProofs (disch := first | decide | exact of_eq_true (eq_true rfl) | omega | assumption) only [↓vcD, vcE, evs, evP, evB, intsOf, fillC, Value.cells, pt, List.append_nil, List.nil_append, List.cons_append, List.length_cons, List.length_nil, List.filter_nil, List.map_nil, ↓List.getElem?_cons_zero, ↓List.getElem?_cons_succ, List.getElem?_cons_zero, List.getElem?_cons_succ, List.set_cons_zero, List.set_cons_succ, Option.join_some, Option.join_none, Option.map_some, List.all_cons, List.all_nil, Value.oneCell', reduceIte, reduceCtorEq, Nat.reduceEqDiff, Nat.reduceAdd, Nat.reduceMul, Nat.reduceLT, Nat.reduceBEq, Nat.reduceLeDiff, Nat.reduceSub, List.size_toArray]) (resF_cell rfl okc_errno (by simp -implicitDefEqProofs (disch := first | decide | exact of_eq_true (eq_true rfl) | omega | assumption) only [↓vcD, vcE, evs, evP, evB, intsOf, fillC, Value.cells, pt, List.append_nil, List.nil_append, List.cons_append, List.length_cons, List.length_nil, List.filter_nil, List.map_nil, ↓List.getElem?_cons_zero, ↓List.getElem?_cons_succ, List.getElem?_cons_zero, List.getElem?_cons_succ, List.set_cons_zero, List.set_cons_succ, Option.join_some, Option.join_none, Option.map_some, List.all_cons, List.all_nil, Value.oneCell', reduceIte, reduceCtorEq, Nat.reduceEqDiff, Nat.reduceAdd, Nat.reduceMul, Nat.reduceLT, Nat.reduceBEq, Nat.reduceLeDiff, Nat.reduceSub, List.size_toArray]) resF_nil)) (by rw [e0, h1]; rfl) (by rfl)⟩
  have h4 : ∀ x ∈ bd, 0 ≤ x ∧ x ≤ 1000000000000000 := Classical.not_not.1 h3
  refine ITri.skip ?_; simp only [SeqQ_normal, BlkQ_normal]
  refine ITri.seq ?_
  refine ITri.seq ?_
  refine ITri.reg pok ?_; simp -implicitDefEqProofs (disch := first | decide | exact of_eq_true (eq_true rfl) | omega | assumption) only [ ↓vcD, vcE, evs, evP, evB, intsOf, fillC, Value.cells, pt, List.append_nil, List.nil_append, List.cons_append, List.length_cons, List.length_nil, List.filter_nil, List.map_nil, ↓List.getElem?_cons_zero, ↓List.getElem?_cons_succ, List.getElem?_cons_zero, List.getElem?_cons_succ, List.set_cons_zero, List.set_cons_succ, Option.join_some, Option.join_none, Option.map_some, List.all_cons, List.all_nil, Value.oneCell', reduceIte, reduceCtorEq, Nat.reduceEqDiff, Nat.reduceAdd, Nat.reduceMul, Nat.reduceLT, Nat.reduceBEq, Nat.reduceLeDiff, Nat.reduceSub, List.size_toArray] -- r8 crop.go:219
  have hws := wF_in hok.2.1
  have hbd : ∀ i, i ≤ (wF l).length → 0 ≤ nth bd i ∧ nth bd i ≤ 1000000000000000 := fun i hi => h4 _ (nth_mem (by omega))
  refine ITri.block ?_ -- 0
  refine ITri.loop (fun k : Nat => [(5, pt 4), (6, pt 5), (7, pt 6), (9, pt 8), (37, .int .i64 (wF l).length), (38, .int .i64 k)]) (fun k => marksN 9 k) (fun k => pvM l bd nb cb k1 k2 k3 (.bool false) (.int .i64 0) k []) (fun k => k ≤ (wF l).length ∧ ∀ f, f < k → pvAt (wF l) k1 k2 k3 bd f = true) (fun k => (wF l).length - k) 0 ⟨Nat.zero_le _, fun f hf => by omega⟩ ?_ fun k hk => ?_
  · exact Wk.sub (h := pvM l bd nb cb k1 k2 k3 (.bool false) (.int .i64 0) 0 []) ⟨rfl, rfl, rfl, rfl, rfl, rfl, trivial⟩
  obtain ⟨hk, hpre⟩ := hk
  refine ITri.seq ?_
  refine ITri.reg pok ?_; simp -implicitDefEqProofs (disch := first | decide | exact of_eq_true (eq_true rfl) | omega | assumption) only [ ↓vcD, vcE, evs, evP, evB, intsOf, fillC, Value.cells, pt, List.append_nil, List.nil_append, List.cons_append, List.length_cons, List.length_nil, List.filter_nil, List.map_nil, ↓List.getElem?_cons_zero, ↓List.getElem?_cons_succ, List.getElem?_cons_zero, List.getElem?_cons_succ, List.set_cons_zero, List.set_cons_succ, Option.join_some, Option.join_none, Option.map_some, List.all_cons, List.all_nil, Value.oneCell', reduceIte, reduceCtorEq, Nat.reduceEqDiff, Nat.reduceAdd, Nat.reduceMul, Nat.reduceLT, Nat.reduceBEq, Nat.reduceLeDiff, Nat.reduceSub, List.size_toArray] -- r9 crop.go:219
  refine ITri.seq ?_
  refine ITri.condD (by rfl) (fun h5 => ?_) (fun h5 => ?_) -- %39
  · have hkN : k < (wF l).length := by omega
    refine ITri.skip ?_; simp only [SeqQ_normal, BlkQ_normal]
    refine ITri.seq ?_
    refine ITri.block ?_ -- 1
    refine ITri.seq ?_
    refine ITri.reg pok ?_; simp -implicitDefEqProofs (disch := first | decide | exact of_eq_true (eq_true rfl) | omega | assumption) only [↓rep_get, ↓rep_get0, rep_set, rep_set0, List.length_append, List.length_replicate, List.append_assoc, Nat.add_assoc,  ↓vcD, vcE, evs, evP, evB, intsOf, fillC, Value.cells, pt, List.append_nil, List.nil_append, List.cons_append, List.length_cons, List.length_nil, List.filter_nil, List.map_nil, ↓List.getElem?_cons_zero, ↓List.getElem?_cons_succ, List.getElem?_cons_zero, List.getElem?_cons_succ, List.set_cons_zero, List.set_cons_succ, Option.join_some, Option.join_none, Option.map_some, List.all_cons, List.all_nil, Value.oneCell', reduceIte, reduceCtorEq, Nat.reduceEqDiff, Nat.reduceAdd, Nat.reduceMul, Nat.reduceLT, Nat.reduceBEq, Nat.reduceLeDiff, Nat.reduceSub, List.size_toArray] -- r10 crop.go:219
    refine ITri.seq ?_
    refine ITri.seq ?_
    have e1 : ((k : Int) + 1).toNat = k + 1 := by omega
    refine ITri.draw pok ?_; simp -implicitDefEqProofs (disch := first | decide | exact of_eq_true (eq_true rfl) | omega | assumption) only [↓rep_get, ↓rep_get0, rep_set, rep_set0, List.length_append, List.length_replicate, List.append_assoc, Nat.add_assoc, getI, e1,  ↓vcD, vcE, evs, evP, evB, intsOf, fillC, Value.cells, pt, List.append_nil, List.nil_append, List.cons_append, List.length_cons, List.length_nil, List.filter_nil, List.map_nil, ↓List.getElem?_cons_zero, ↓List.getElem?_cons_succ, List.getElem?_cons_zero, List.getElem?_cons_succ, List.set_cons_zero, List.set_cons_succ, Option.join_some, Option.join_none, Option.map_some, List.all_cons, List.all_nil, Value.oneCell', reduceIte, reduceCtorEq, Nat.reduceEqDiff, Nat.reduceAdd, Nat.reduceMul, Nat.reduceLT, Nat.reduceBEq, Nat.reduceLeDiff, Nat.reduceSub, List.size_toArray] -- r11 crop.go:220
    have hb1 := hbd k (by omega)
    have hb2 := hbd (k + 1) (by omega)
    refine ITri.condD (by rfl) (fun h6 => ?_) (fun h6 => ?_) -- %50
    · have e0 : provesF l k1 k2 k3 bd = false := by
        cases he : provesF l k1 k2 k3 bd with
        | false => rfl
        | true =>
          unfold provesF at he
          rw [Bool.and_eq_true] at he
          have := ((pvF_iff.1 he.2).2.2 k hkN).1
          omega
      refine ITri.seq ?_
      refine ITri.reg pok ?_; simp -implicitDefEqProofs (disch := first | decide | exact of_eq_true (eq_true rfl) | omega | assumption) only [↓rep_get, ↓rep_get0, rep_set, rep_set0, List.length_append, List.length_replicate, List.append_assoc, Nat.add_assoc,  ↓vcD, vcE, evs, evP, evB, intsOf, fillC, Value.cells, pt, List.append_nil, List.nil_append, List.cons_append, List.length_cons, List.length_nil, List.filter_nil, List.map_nil, ↓List.getElem?_cons_zero, ↓List.getElem?_cons_succ, List.getElem?_cons_zero, List.getElem?_cons_succ, List.set_cons_zero, List.set_cons_succ, Option.join_some, Option.join_none, Option.map_some, List.all_cons, List.all_nil, Value.oneCell', reduceIte, reduceCtorEq, Nat.reduceEqDiff, Nat.reduceAdd, Nat.reduceMul, Nat.reduceLT, Nat.reduceBEq, Nat.reduceLeDiff, Nat.reduceSub, List.size_toArray] -- r12 crop.go:221
      refine ITri.ret ?_; simp only [SeqQ_ret, BlkQ_ret, LoopQ_ret]
      rw [e0, h1]
      exact pv_end l bd nb cb k1 k2 k3 false 0 k [_] (by simp) rfl rfl
    refine ITri.skip ?_; simp only [SeqQ_normal, BlkQ_normal]
    refine ITri.seq ?_
    refine ITri.reg pok ?_; simp -implicitDefEqProofs (disch := first | decide | exact of_eq_true (eq_true rfl) | omega | assumption) only [↓rep_get, ↓rep_get0, rep_set, rep_set0, List.length_append, List.length_replicate, List.append_assoc, Nat.add_assoc,  ↓vcD, vcE, evs, evP, evB, intsOf, fillC, Value.cells, pt, List.append_nil, List.nil_append, List.cons_append, List.length_cons, List.length_nil, List.filter_nil, List.map_nil, ↓List.getElem?_cons_zero, ↓List.getElem?_cons_succ, List.getElem?_cons_zero, List.getElem?_cons_succ, List.set_cons_zero, List.set_cons_succ, Option.join_some, Option.join_none, Option.map_some, List.all_cons, List.all_nil, Value.oneCell', reduceIte, reduceCtorEq, Nat.reduceEqDiff, Nat.reduceAdd, Nat.reduceMul, Nat.reduceLT, Nat.reduceBEq, Nat.reduceLeDiff, Nat.reduceSub, List.size_toArray] -- r13 crop.go:223 CALLS .call F66 [%51, %52]
    refine ⟨_, _, blocks_f k1 k2 k3 (wF l).length openB 7 k, ?_⟩
    simp -implicitDefEqProofs (disch := first | decide | exact of_eq_true (eq_true rfl) | omega | assumption) only [↓rep_get, ↓rep_get0, rep_set, rep_set0, List.length_append, List.length_replicate, List.append_assoc, Nat.add_assoc, news_c, news_n,  ↓vcD, vcE, evs, evP, evB, intsOf, fillC, Value.cells, pt, List.append_nil, List.nil_append, List.cons_append, List.length_cons, List.length_nil, List.filter_nil, List.map_nil, ↓List.getElem?_cons_zero, ↓List.getElem?_cons_succ, List.getElem?_cons_zero, List.getElem?_cons_succ, List.set_cons_zero, List.set_cons_succ, Option.join_some, Option.join_none, Option.map_some, List.all_cons, List.all_nil, Value.oneCell', reduceIte, reduceCtorEq, Nat.reduceEqDiff, Nat.reduceAdd, Nat.reduceMul, Nat.reduceLT, Nat.reduceBEq, Nat.reduceLeDiff, Nat.reduceSub, List.size_toArray]
    refine ITri.block ?_ -- 2
    refine ITri.rf pok (dn := k + 12) (m1 := (k + 12) :: marksN 9 k) (h1 := pvM l bd nb cb k1 k2 k3 (.bool false) (.int .i64 0) k (pvT k k1 k2 k3 (wF l).length)) (by rfl) (by simp -implicitDefEqProofs (disch := first | decide | exact of_eq_true (eq_true rfl) | omega | assumption) only [aEnter, ↓rep_get, ↓rep_get0, rep_set, rep_set0, List.length_append, List.length_replicate, List.append_assoc, Nat.add_assoc,  ↓vcD, vcE, evs, evP, evB, intsOf, fillC, Value.cells, pt, List.append_nil, List.nil_append, List.cons_append, List.length_cons, List.length_nil, List.filter_nil, List.map_nil, ↓List.getElem?_cons_zero, ↓List.getElem?_cons_succ, List.getElem?_cons_zero, List.getElem?_cons_succ, List.set_cons_zero, List.set_cons_succ, Option.join_some, Option.join_none, Option.map_some, List.all_cons, List.all_nil, Value.oneCell', reduceIte, reduceCtorEq, Nat.reduceEqDiff, Nat.reduceAdd, Nat.reduceMul, Nat.reduceLT, Nat.reduceBEq, Nat.reduceLeDiff, Nat.reduceSub, List.size_toArray]) fun px cx cy hpx hcx hcy => ?_
    -- how far the rounds go
    have hyk : ∀ x ∈ yF (wF l) k1 k2 k, okY k (wF l).length x := yF_ok hws k1 k2 k (by omega)
    have hmle : (yF (wF l) k1 k2 k).findIdx (fun x => !pvOk bd k3 k (wF l).length x) ≤ (yF (wF l) k1 k2 k).length := List.findIdx_le_length
    have hmt : ∀ i x, i < (yF (wF l) k1 k2 k).findIdx (fun x => !pvOk bd k3 k (wF l).length x) → (yF (wF l) k1 k2 k)[i]? = some x → pvOk bd k3 k (wF l).length x = true := fun i x hi hx => by
      have := List.not_of_lt_findIdx hi
      obtain ⟨_, hx2⟩ := List.getElem?_eq_some_iff.1 hx
      rw [hx2] at this
      simpa using this
    have hmx : ∀ x, (yF (wF l) k1 k2 k)[(yF (wF l) k1 k2 k).findIdx (fun x => !pvOk bd k3 k (wF l).length x)]? = some x → pvOk bd k3 k (wF l).length x = false := fun x hx => by
      obtain ⟨h7, hx2⟩ := List.getElem?_eq_some_iff.1 hx
      have := List.findIdx_getElem (w := h7)
      rw [hx2] at this
      simpa using this
    generalize (yF (wF l) k1 k2 k).findIdx (fun x => !pvOk bd k3 k (wF l).length x) = m at hmle hmt hmx
    have Y := fun x hx => pv_yield l bd nb cb k1 k2 k3 k hpx hcx hcy hkN (by omega) (by omega) hnb (by omega) hbd x (hyk x hx)
    have BL := blocks1_f (k + 13) (k + 11) (k + 10) 7 0 openB (wF l) k1 k2 k3 (wF l).length k
      (fun _ => pvM l bd nb cb k1 k2 k3 (.bool false) (.int .i64 0) k (pvT k k1 k2 k3 (wF l).length ++ [pvLo k (wF l).length px cx cy .ready none]))
      (pvM l bd nb cb k1 k2 k3 (.bool false) (.int .i64 0) k (pvT k k1 k2 k3 (wF l).length ++ [pvLo k (wF l).length px cx cy .done (some .ret)])) m ⟨by omega, by omega, by omega⟩ rfl (by omega) hkN hws
      (fun _ => by simp -implicitDefEqProofs (disch := first | decide | exact of_eq_true (eq_true rfl) | omega | assumption) only [↓rep_get, ↓rep_get0, rep_set, rep_set0, List.length_append, List.length_replicate, List.append_assoc, Nat.add_assoc,  ↓vcD, vcE, evs, evP, evB, intsOf, fillC, Value.cells, pt, List.append_nil, List.nil_append, List.cons_append, List.length_cons, List.length_nil, List.filter_nil, List.map_nil, ↓List.getElem?_cons_zero, ↓List.getElem?_cons_succ, List.getElem?_cons_zero, List.getElem?_cons_succ, List.set_cons_zero, List.set_cons_succ, Option.join_some, Option.join_none, Option.map_some, List.all_cons, List.all_nil, Value.oneCell', reduceIte, reduceCtorEq, Nat.reduceEqDiff, Nat.reduceAdd, Nat.reduceMul, Nat.reduceLT, Nat.reduceBEq, Nat.reduceLeDiff, Nat.reduceSub, List.size_toArray]) (fun _ => by simp -implicitDefEqProofs (disch := first | decide | exact of_eq_true (eq_true rfl) | omega | assumption) only [↓rep_get, ↓rep_get0, rep_set, rep_set0, List.length_append, List.length_replicate, List.append_assoc, Nat.add_assoc,  ↓vcD, vcE, evs, evP, evB, intsOf, fillC, Value.cells, pt, List.append_nil, List.nil_append, List.cons_append, List.length_cons, List.length_nil, List.filter_nil, List.map_nil, ↓List.getElem?_cons_zero, ↓List.getElem?_cons_succ, List.getElem?_cons_zero, List.getElem?_cons_succ, List.set_cons_zero, List.set_cons_succ, Option.join_some, Option.join_none, Option.map_some, List.all_cons, List.all_nil, Value.oneCell', reduceIte, reduceCtorEq, Nat.reduceEqDiff, Nat.reduceAdd, Nat.reduceMul, Nat.reduceLT, Nat.reduceBEq, Nat.reduceLeDiff, Nat.reduceSub, List.size_toArray]) (fun _ => by simp -implicitDefEqProofs (disch := first | decide | exact of_eq_true (eq_true rfl) | omega | assumption) only [↓rep_get, ↓rep_get0, rep_set, rep_set0, List.length_append, List.length_replicate, List.append_assoc, Nat.add_assoc,  ↓vcD, vcE, evs, evP, evB, intsOf, fillC, Value.cells, pt, List.append_nil, List.nil_append, List.cons_append, List.length_cons, List.length_nil, List.filter_nil, List.map_nil, ↓List.getElem?_cons_zero, ↓List.getElem?_cons_succ, List.getElem?_cons_zero, List.getElem?_cons_succ, List.set_cons_zero, List.set_cons_succ, Option.join_some, Option.join_none, Option.map_some, List.all_cons, List.all_nil, Value.oneCell', reduceIte, reduceCtorEq, Nat.reduceEqDiff, Nat.reduceAdd, Nat.reduceMul, Nat.reduceLT, Nat.reduceBEq, Nat.reduceLeDiff, Nat.reduceSub, List.size_toArray]) (fun _ => by simp -implicitDefEqProofs (disch := first | decide | exact of_eq_true (eq_true rfl) | omega | assumption) only [↓rep_get, ↓rep_get0, rep_set, rep_set0, List.length_append, List.length_replicate, List.append_assoc, Nat.add_assoc,  ↓vcD, vcE, evs, evP, evB, intsOf, fillC, Value.cells, pt, List.append_nil, List.nil_append, List.cons_append, List.length_cons, List.length_nil, List.filter_nil, List.map_nil, ↓List.getElem?_cons_zero, ↓List.getElem?_cons_succ, List.getElem?_cons_zero, List.getElem?_cons_succ, List.set_cons_zero, List.set_cons_succ, Option.join_some, Option.join_none, Option.map_some, List.all_cons, List.all_nil, Value.oneCell', reduceIte, reduceCtorEq, Nat.reduceEqDiff, Nat.reduceAdd, Nat.reduceMul, Nat.reduceLT, Nat.reduceBEq, Nat.reduceLeDiff, Nat.reduceSub, List.size_toArray])
      (fun _ i hi => by simp -implicitDefEqProofs (disch := first | decide | exact of_eq_true (eq_true rfl) | omega | assumption) only [↓rep_get, ↓rep_get0, rep_set, rep_set0, List.length_append, List.length_replicate, List.append_assoc, Nat.add_assoc, getI,  ↓vcD, vcE, evs, evP, evB, intsOf, fillC, Value.cells, pt, List.append_nil, List.nil_append, List.cons_append, List.length_cons, List.length_nil, List.filter_nil, List.map_nil, ↓List.getElem?_cons_zero, ↓List.getElem?_cons_succ, List.getElem?_cons_zero, List.getElem?_cons_succ, List.set_cons_zero, List.set_cons_succ, Option.join_some, Option.join_none, Option.map_some, List.all_cons, List.all_nil, Value.oneCell', reduceIte, reduceCtorEq, Nat.reduceEqDiff, Nat.reduceAdd, Nat.reduceMul, Nat.reduceLT, Nat.reduceBEq, Nat.reduceLeDiff, Nat.reduceSub, List.size_toArray]) (fun _ => by rw [Hq_sees]; simp) hmle
      (fun i x hi hx => by
        have := Y x (List.mem_of_getElem? hx)
        rwa [hmt i x hi hx] at this)
      (fun x hx => by
        have := Y x (List.mem_of_getElem? hx)
        rwa [hmx x hx] at this)
      (fun _ => by split <;> exact grow_hq (by simp) (by simp))
    have hM : (pvM l bd nb cb k1 k2 k3 (.bool false) (.int .i64 0) k (pvT k k1 k2 k3 (wF l).length)).new (.loop ⟨.ready, none, trOf (pvF0 k (wF l).length), 70, px, cx, cy, k + 12⟩) = pvM l bd nb cb k1 k2 k3 (.bool false) (.int .i64 0) k (pvT k k1 k2 k3 (wF l).length ++ [pvLo k (wF l).length px cx cy .ready none]) := by
      rw [Hq_new]
      simp only [List.cons_append, List.append_assoc, List.nil_append]
    have hX : (pvM l bd nb cb k1 k2 k3 (.bool false) (.int .i64 0) k (pvT k k1 k2 k3 (wF l).length)).next = k + 13 := by
      rw [Hq_next]
      simp
    have hgo : ∀ {st pd}, (pvM l bd nb cb k1 k2 k3 (.bool false) (.int .i64 0) k (pvT k k1 k2 k3 (wF l).length ++ [pvLo k (wF l).length px cx cy st pd])).get (k + 13) = some (.loop ⟨st, pd, trOf (pvF0 k (wF l).length), 70, px, cx, cy, k + 12⟩) := fun {st pd} => by
      rw [Hp_get]
      simp only [↓rep_get, ↓rep_get0, rep_set, rep_set0, List.length_append, List.length_replicate, List.append_assoc, Nat.add_assoc, List.cons_append, List.nil_append, List.getElem?_cons_succ, List.getElem?_cons_zero, Option.join_some]
    have hput : ∀ {st pd st2 pd2}, (pvM l bd nb cb k1 k2 k3 (.bool false) (.int .i64 0) k (pvT k k1 k2 k3 (wF l).length ++ [pvLo k (wF l).length px cx cy st2 pd2])).put (k + 13) (pvLo k (wF l).length px cx cy st pd) = pvM l bd nb cb k1 k2 k3 (.bool false) (.int .i64 0) k (pvT k k1 k2 k3 (wF l).length ++ [pvLo k (wF l).length px cx cy st pd]) := fun {st pd st2 pd2} => by
      rw [Hq_put _ _ (by simp)]
      simp only [↓rep_get, ↓rep_get0, rep_set, rep_set0, List.length_append, List.length_replicate, List.append_assoc, Nat.add_assoc, List.cons_append, List.nil_append, List.set_cons_succ, List.set_cons_zero]
    rw [hX]
    by_cases hlt : m < (yF (wF l) k1 k2 k).length
    · rw [if_pos hlt] at BL
      have e0 : provesF l k1 k2 k3 bd = false := by
        cases he : provesF l k1 k2 k3 bd with
        | false => rfl
        | true =>
          unfold provesF at he
          rw [Bool.and_eq_true] at he
          have h8 := ((pvF_iff.1 he.2).2.2 k hkN).2 _ (List.getElem_mem hlt)
          have h9 := hmx _ (List.getElem?_eq_getElem hlt)
          simp at h9
          omega
      refine ⟨_, _, _, BL.at hM, hgo (st := .done) (pd := some .ret), by simp, .ret, rfl, ?_⟩
      rw [hput, e0, h1]
      try simp -implicitDefEqProofs (disch := first | decide | exact of_eq_true (eq_true rfl) | omega | assumption) only [ ↓vcD, vcE, evs, evP, evB, intsOf, fillC, Value.cells, pt, List.append_nil, List.nil_append, List.cons_append, List.length_cons, List.length_nil, List.filter_nil, List.map_nil, ↓List.getElem?_cons_zero, ↓List.getElem?_cons_succ, List.getElem?_cons_zero, List.getElem?_cons_succ, List.set_cons_zero, List.set_cons_succ, Option.join_some, Option.join_none, Option.map_some, List.all_cons, List.all_nil, Value.oneCell', reduceIte, reduceCtorEq, Nat.reduceEqDiff, Nat.reduceAdd, Nat.reduceMul, Nat.reduceLT, Nat.reduceBEq, Nat.reduceLeDiff, Nat.reduceSub, List.size_toArray]
      exact pv_end2 l bd nb cb k1 k2 k3 false 0 k _ _ _ _ (ex := .ret) (fun _ h => by cases h) rfl rfl
    rw [if_neg hlt] at BL
    refine ⟨_, _, _, BL.at hM, hgo (st := .ready) (pd := none), by simp, .normal, rfl, ?_⟩
    rw [hput]
    try simp -implicitDefEqProofs (disch := first | decide | exact of_eq_true (eq_true rfl) | omega | assumption) only [ ↓vcD, vcE, evs, evP, evB, intsOf, fillC, Value.cells, pt, List.append_nil, List.nil_append, List.cons_append, List.length_cons, List.length_nil, List.filter_nil, List.map_nil, ↓List.getElem?_cons_zero, ↓List.getElem?_cons_succ, List.getElem?_cons_zero, List.getElem?_cons_succ, List.set_cons_zero, List.set_cons_succ, Option.join_some, Option.join_none, Option.map_some, List.all_cons, List.all_nil, Value.oneCell', reduceIte, reduceCtorEq, Nat.reduceEqDiff, Nat.reduceAdd, Nat.reduceMul, Nat.reduceLT, Nat.reduceBEq, Nat.reduceLeDiff, Nat.reduceSub, List.size_toArray]
    refine ITri.reg pok ?_; simp -implicitDefEqProofs (disch := first | decide | exact of_eq_true (eq_true rfl) | omega | assumption) only [↓rep_get, ↓rep_get0, rep_set, rep_set0, List.length_append, List.length_replicate, List.append_assoc, Nat.add_assoc,  ↓vcD, vcE, evs, evP, evB, intsOf, fillC, Value.cells, pt, List.append_nil, List.nil_append, List.cons_append, List.length_cons, List.length_nil, List.filter_nil, List.map_nil, ↓List.getElem?_cons_zero, ↓List.getElem?_cons_succ, List.getElem?_cons_zero, List.getElem?_cons_succ, List.set_cons_zero, List.set_cons_succ, Option.join_some, Option.join_none, Option.map_some, List.all_cons, List.all_nil, Value.oneCell', reduceIte, reduceCtorEq, Nat.reduceEqDiff, Nat.reduceAdd, Nat.reduceMul, Nat.reduceLT, Nat.reduceBEq, Nat.reduceLeDiff, Nat.reduceSub, List.size_toArray]
    have hat : pvAt (wF l) k1 k2 k3 bd k = true := by
      unfold pvAt
      rw [Bool.and_eq_true, decide_eq_true_eq, List.all_eq_true]
      refine ⟨by omega, fun x hx => ?_⟩
      obtain ⟨i, hi, rfl⟩ := List.mem_iff_getElem.1 hx
      exact hmt i _ (by omega) (List.getElem?_eq_getElem hi)
    refine LoopQ.next (k + 1) ⟨by omega, fun f hf => ?_⟩ (by omega) ?_
    · rcases Nat.lt_or_ge f k with q | q
      · exact hpre f q
      · obtain rfl : f = k := by omega
        exact hat
    refine Wk.mark (p := 9) (k := k) (i := 3) (F1 := [_, _, _, _, _, _, _, _, _]) (F2 := [none, _, _, _, _, _, _, _, _]) rfl (by rw [List.append_nil]; rfl) rfl rfl (by omega) (by omega) rfl ?_ ?_
    · simp only [subO, clO, okML_rows, okML, okM, okMA, okP, okS, and_true, true_and]
      omega
    · simp -implicitDefEqProofs (disch := first | decide | exact of_eq_true (eq_true rfl) | omega | assumption) only [clF, pt, okM, okMA, okML, okP, and_true, true_and,  ↓vcD, vcE, evs, evP, evB, intsOf, fillC, Value.cells, pt, List.append_nil, List.nil_append, List.cons_append, List.length_cons, List.length_nil, List.filter_nil, List.map_nil, ↓List.getElem?_cons_zero, ↓List.getElem?_cons_succ, List.getElem?_cons_zero, List.getElem?_cons_succ, List.set_cons_zero, List.set_cons_succ, Option.join_some, Option.join_none, Option.map_some, List.all_cons, List.all_nil, Value.oneCell', reduceIte, reduceCtorEq, Nat.reduceEqDiff, Nat.reduceAdd, Nat.reduceMul, Nat.reduceLT, Nat.reduceBEq, Nat.reduceLeDiff, Nat.reduceSub, List.size_toArray, Int.natCast_add, Int.cast_ofNat_Int]
  have hkN : k = (wF l).length := by omega
  subst hkN
  have e0 : provesF l k1 k2 k3 bd = true := by
    unfold provesF
    rw [Bool.and_eq_true, decide_eq_true_eq]
    refine ⟨h1, ?_⟩
    unfold pvF
    rw [Bool.and_eq_true, Bool.and_eq_true, decide_eq_true_eq, List.all_eq_true, List.all_eq_true]
    exact ⟨by omega, fun x hx => inB_t (h4 x hx), fun f hf => hpre f (List.mem_range.1 hf)⟩
  refine ITri.exit ?_; try simp -implicitDefEqProofs (disch := first | decide | exact of_eq_true (eq_true rfl) | omega | assumption) only [ ↓vcD, vcE, evs, evP, evB, intsOf, fillC, Value.cells, pt, List.append_nil, List.nil_append, List.cons_append, List.length_cons, List.length_nil, List.filter_nil, List.map_nil, ↓List.getElem?_cons_zero, ↓List.getElem?_cons_succ, List.getElem?_cons_zero, List.getElem?_cons_succ, List.set_cons_zero, List.set_cons_succ, Option.join_some, Option.join_none, Option.map_some, List.all_cons, List.all_nil, Value.oneCell', reduceIte, reduceCtorEq, Nat.reduceEqDiff, Nat.reduceAdd, Nat.reduceMul, Nat.reduceLT, Nat.reduceBEq, Nat.reduceLeDiff, Nat.reduceSub, List.size_toArray]
  refine ITri.seq ?_
  refine ITri.reg pok ?_; simp -implicitDefEqProofs (disch := first | decide | exact of_eq_true (eq_true rfl) | omega | assumption) only [↓rep_get, ↓rep_get0, rep_set, rep_set0, List.length_append, List.length_replicate, List.append_assoc, Nat.add_assoc,  ↓vcD, vcE, evs, evP, evB, intsOf, fillC, Value.cells, pt, List.append_nil, List.nil_append, List.cons_append, List.length_cons, List.length_nil, List.filter_nil, List.map_nil, ↓List.getElem?_cons_zero, ↓List.getElem?_cons_succ, List.getElem?_cons_zero, List.getElem?_cons_succ, List.set_cons_zero, List.set_cons_succ, Option.join_some, Option.join_none, Option.map_some, List.all_cons, List.all_nil, Value.oneCell', reduceIte, reduceCtorEq, Nat.reduceEqDiff, Nat.reduceAdd, Nat.reduceMul, Nat.reduceLT, Nat.reduceBEq, Nat.reduceLeDiff, Nat.reduceSub, List.size_toArray] -- r19 crop.go:229
  refine ITri.ret ?_
  rw [e0, h1]
  have E := pv_end l bd nb cb k1 k2 k3 true 0 (wF l).length [] (ex := .ret) (lf := [(6, pt 5), (7, pt 6)]) (fun _ h => by cases h) rfl rfl
  rw [pvM_nil] at E
  exact E

theorem proves_f (n : Nat) (l : List St) (k1 k2 k3 : Int) (nb : Nat) (bd : List Int) (hn : l.length = n) (hb : n ≤ 1000000) (hnb : bd.length = nb) (hbb : nb ≤ 1000000) {h : AH} {s t : Value} (h0 : h.sees 0 = true) (r : Rd h s n (rows eII l)) (r2 : Rd h t nb (rows eI bd)) :
    Fc Try.prog 34 [s, sawV k1 k2 k3, t] h (.tuple #[.bool (provesF l k1 k2 k3 bd), .int .i64 (checkF l (k1, k2, k3))]) h :=
  Fc.lift2 (mk := fun ss => ss.take 1 ++ [sawV k1 k2 k3] ++ ss.drop 1) (mkv := fun _ => .tuple #[.bool (provesF l k1 k2 k3 bd), .int .i64 (checkF l (k1, k2, k3))]) (os := []) (fun c d => proves_c n c l k1 k2 k3 nb d bd hn hb hnb hbb) (MkL.split rfl) (MkV.const rfl) (rows_no (f := eII) l) (rows_no (f := eI) bd) (fun o ho => by cases ho) h0 r r2
end Go.Proofs.Ytlkfcbdbieenhaa
