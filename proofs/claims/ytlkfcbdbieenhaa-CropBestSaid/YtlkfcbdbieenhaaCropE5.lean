/-
  Chapter 7 by names: the reference's list of all croppings.
-/
import Derived.Test.YtlkfcbdbieenhaaCropE4
import Derived.Test.YtlkfcbdbieenhaaMh
set_option linter.unusedSimpArgs false
set_option linter.unusedVariables false
namespace Go.Vm
open Go Go.RowKit
section
variable {wl : Nat} {hid : List (Nat × Nat)} {L T : List (Option AObj)} {k sz bytes n c ne c2 k2 o2 o : Nat} {K : Value → AH → Prop} {h : AH}
theorem apd_get (i : Nat) : (L ++ T)[L.length + i]? = T[i]? := by rw [List.getElem?_append_right (by omega)]; congr 1; omega
theorem apd_get0 : (L ++ T)[L.length]? = T[0]? := by rw [List.getElem?_append_right (by omega)]; congr 1; omega
theorem apd_set (i : Nat) (x : Option AObj) : (L ++ T).set (L.length + i) x = L ++ T.set i x := by rw [List.set_append_right _ _ (by omega)]; congr 2; omega
theorem apd_set0 (x : Option AObj) : (L ++ T).set L.length x = L ++ T.set 0 x := by rw [List.set_append_right _ _ (by omega)]; congr 2; omega
theorem apd_low (x : Option AObj) (h : L[k]? = some x) : (L ++ T)[k]? = some x := by rw [List.getElem?_append_left (List.getElem?_eq_some_iff.1 h).1]; exact h
/-- Appending to a row without room for it. -/
theorem appK_g {old : List Value} {op : Bool} (hf : freeOf hid k = true) (hL : (L[k]?).join = some (AObj.cells ⟨old, sz, op⟩)) (hl : old.length = n * sz) (hn : n ≠ 0) (hc : c < n + ne) (hc2 : c < openB) (hne' : ne ≠ 0) :
    appK (Hq wl hid L) sz bytes (.slice (some ⟨k, 0, none⟩) n c) (.slice (some ⟨k2, o2, none⟩) ne c2) K =
      (match cellsAt (Hq wl hid L) k2 o2 (ne * sz) with
       | some new => chk ((2 * (n + ne) + 1024) * bytes ≤ 281474976710656) (K (.slice (some ⟨L.length, 0, none⟩) (n + ne) openB) (Hq wl hid (L ++ [some (AObj.cells ⟨old ++ new, sz, true⟩)])))
       | none => False) := by
  have hg : (Hq wl hid L).get k = some (.cells ⟨old, sz, op⟩) := (free_get hf).trans hL
  have hself : sCells (Hq wl hid L) sz (.slice (some ⟨k, 0, none⟩) n c) = some old := by
    unfold sCells
    simp only [if_neg hn, cellsAt, hg]
    rw [if_pos (by omega)]
    simp [← hl]
  have hsc : sCells (Hq wl hid L) sz (.slice (some ⟨k2, o2, none⟩) ne c2) = cellsAt (Hq wl hid L) k2 o2 (ne * sz) := if_neg hne'
  unfold appK
  rw [hsc]
  cases hx : cellsAt (Hq wl hid L) k2 o2 (ne * sz) with
  | none => rfl
  | some new =>
    simp only [slen_slice]
    unfold appN
    have h1 : ¬ (n + ne ≤ c) := by omega
    simp only [hc2, if_true, h1, if_false, hself, Hq_new, Hq_next]
    exact propext ⟨fun h => h.2 hne', fun h => ⟨fun e => absurd e hne', fun _ => h⟩⟩
/-- Appending nothing. -/
theorem appK_z (hc : c < openB) (hn : n ≤ c) : appK h sz bytes (.slice (some ⟨k, o, none⟩) n c) (.slice (some ⟨k2, o2, none⟩) 0 c2) K = K (.slice (some ⟨k, o, none⟩) n c) h := by
  unfold appK
  have e : sCells h sz (.slice (some ⟨k2, o2, none⟩) 0 c2) = some [] := by unfold sCells; exact if_pos rfl
  rw [e]
  simp only [slen_slice]
  exact propext ⟨fun h => (h.1 trivial).2, fun h => ⟨fun _ => ⟨.inl ⟨hc, hn⟩, h⟩, fun e => absurd rfl e⟩⟩
end
end Go.Vm
namespace Go.Proofs.Ytlkfcbdbieenhaa
open Go.RowKit Go.Vm
set_option maxRecDepth 100000

theorem kpB_le {l : List St} {k1 k2 k3 : Int} {R : Int → List (List Bl)} (hR : ∀ f, 0 ≤ f → (R f).length ≤ 200000) (hk1 : 1 ≤ k1) (hk3 : 0 ≤ k3) (a : Int) (ha : 0 ≤ a) : ∀ j : Nat, (kpB l k1 k2 k3 R a j).length ≤ j * 200000
  | 0 => by simp [kpB_zero]
  | j + 1 => by
    have ih := kpB_le (l := l) (k1 := k1) (k2 := k2) (k3 := k3) hR hk1 hk3 a ha j
    rw [kpB_succ, List.length_append]
    unfold kpC
    split
    · rw [List.length_map]
      have := hR (a + k1 + j + k3) (by omega)
      rw [Nat.succ_mul]
      exact Nat.add_le_add ih this
    · rw [Nat.succ_mul]
      exact Nat.le_trans ih (Nat.le_add_right _ _)
theorem kpA_le {l : List St} {k1 k2 k3 : Int} {R : Int → List (List Bl)} (hR : ∀ f, 0 ≤ f → (R f).length ≤ 200000) (hk1 : 1 ≤ k1) (hk3 : 0 ≤ k3) (hk : k2 - k1 + 1 ≤ 600) (f : Int) (hf : 0 ≤ f) : ∀ j : Nat, 1 ≤ (kpA l k1 k2 k3 R f j).length ∧ (kpA l k1 k2 k3 R f j).length ≤ 1 + j * 120000000
  | 0 => by simp [kpA_zero]
  | j + 1 => by
    have ih := kpA_le (l := l) (k3 := k3) hR hk1 hk3 hk f hf j
    have h2 := kpB_le (l := l) (k1 := k1) (k2 := k2) (k3 := k3) hR hk1 hk3 (f + j) (by omega) (k2 - k1 + 1).toNat
    rw [kpA_succ, List.length_append]
    have h3 : (k2 - k1 + 1).toNat * 200000 ≤ 600 * 200000 := Nat.mul_le_mul_right _ (by omega)
    have h4 : (kpB l k1 k2 k3 R (f + j) (k2 - k1 + 1).toNat).length ≤ 120000000 := Nat.le_trans h2 h3
    generalize (kpB l k1 k2 k3 R (f + j) (k2 - k1 + 1).toNat).length = x at *
    generalize (kpA l k1 k2 k3 R f j).length = y at *
    clear h2 h3 hR
    rw [Nat.succ_mul]
    omega

/- boule/bouleref07.Croppings · slots 66 · names 0:l 1:s 2:from 3:l 4:s 5:from 7:out 8:a 9:b 10:x 11:rest 12:k · results [6] -/
def ir51_r0 : IC := .reg [⟨some 4, none, false, .box (.t 1)⟩,
  ⟨some 6, none, false, .mv (.k (.slice none 0 0))⟩] (some [0, 2, 4])
def ir51_r1 : IC := .reg [⟨some 13, none, false, .bsl 2 0 [] []⟩,
  ⟨some 14, none, false, .bsl 1 1 [(.slice none 0 0)] [(0, (.t 13))]⟩,
  ⟨some 7, none, false, .mv (.t 14)⟩] (some [0, 2, 4, 7])
def ir51_r2 : IC := .reg [⟨some 15, none, false, .mv (.t 2)⟩,
  ⟨some 8, none, false, .mv (.t 15)⟩] (some [0, 4, 7, 8])
def ir51_r3 : IC := .reg [⟨some 16, none, false, .mv (.t 8)⟩,
  ⟨some 17, none, false, .mv (.t 0)⟩,
  ⟨some 18, none, false, .call (.f 13) [(.t 17)]⟩,
  ⟨some 19, none, false, .cmp .lss (.t 16) (.t 18)⟩] (some [0, 4, 7, 8, 19])
def ir51_1 : IC := .cond (.t 19) .skip (.exit 0)
def ir51_2 : IC := .seq ir51_r3 ir51_1
def ir51_r5 : IC := .reg [⟨some 22, none, false, .mv (.t 8)⟩,
  ⟨some 23, none, false, .fad 0 (.t 4)⟩,
  ⟨some 24, none, false, .ldc (.t 23)⟩,
  ⟨some 25, none, false, .ar .add (.t 22) (.t 24)⟩,
  ⟨some 9, none, false, .mv (.t 25)⟩] (some [0, 4, 7, 8, 9])
def ir51_r6 : IC := .reg [⟨some 26, none, false, .mv (.t 9)⟩,
  ⟨some 27, none, false, .mv (.t 8)⟩,
  ⟨some 28, none, false, .fad 1 (.t 4)⟩,
  ⟨some 29, none, false, .ldc (.t 28)⟩,
  ⟨some 30, none, false, .ar .add (.t 27) (.t 29)⟩,
  ⟨some 31, none, false, .cmp .leq (.t 26) (.t 30)⟩] (some [0, 4, 7, 8, 9, 31])
def ir51_3 : IC := .cond (.t 31) .skip (.exit 2)
def ir51_4 : IC := .seq ir51_r6 ir51_3
def ir51_r8 : IC := .reg [⟨some 34, none, false, .mv (.t 8)⟩,
  ⟨some 35, none, false, .mv (.t 9)⟩,
  ⟨some 36, none, false, .bld [(.int .i64 0), (.int .i64 0)] [(0, 1, (.t 34)), (1, 1, (.t 35))]⟩,
  ⟨some 10, none, false, .alloc [(.int .i64 0), (.int .i64 0)]⟩,
  ⟨none, none, false, .st 2 (.t 10) (.t 36)⟩] (some [0, 4, 7, 8, 9, 10])
def ir51_r9 : IC := .reg [⟨some 37, none, false, .mv (.t 0)⟩,
  ⟨some 38, none, false, .lda 3 (.t 4)⟩,
  ⟨some 39, none, false, .lda 2 (.t 10)⟩,
  ⟨some 40, none, false, .call (.f 27) [(.t 37), (.t 38), (.t 39)]⟩,
  ⟨some 41, none, false, .not (.t 40)⟩] (some [0, 4, 7, 8, 9, 10, 41])
def ir51_5 : IC := .cond (.t 41) (.exit 3) .skip
def ir51_6 : IC := .seq ir51_r9 ir51_5
def ir51_r10 : IC := .reg [⟨some 42, none, false, .mv (.t 0)⟩,
  ⟨some 43, none, false, .lda 3 (.t 4)⟩,
  ⟨some 44, none, false, .mv (.t 9)⟩,
  ⟨some 45, none, false, .fad 2 (.t 4)⟩,
  ⟨some 46, none, false, .ldc (.t 45)⟩,
  ⟨some 47, none, false, .ar .add (.t 44) (.t 46)⟩,
  ⟨some 48, none, false, .call (.f 51) [(.t 42), (.t 43), (.t 47)]⟩,
  ⟨some 11, none, false, .mv (.t 48)⟩] (some [0, 4, 7, 8, 9, 10, 11])
def ir51_r11 : IC := .reg [⟨some 12, none, false, .mv (.k (.int .i64 0))⟩] (some [0, 4, 7, 8, 9, 10, 11, 12])
def ir51_r12 : IC := .reg [⟨some 49, none, false, .mv (.t 12)⟩,
  ⟨some 50, none, false, .mv (.t 11)⟩,
  ⟨some 51, none, false, .len (.t 50)⟩,
  ⟨some 52, none, false, .cmp .lss (.t 49) (.t 51)⟩] (some [0, 4, 7, 8, 9, 10, 11, 12, 52])
def ir51_7 : IC := .cond (.t 52) .skip (.exit 4)
def ir51_8 : IC := .seq ir51_r12 ir51_7
def ir51_r14 : IC := .draw [(⟨some 55, none, false, .mv (.t 7)⟩, false, 0, 0),
  (⟨some 56, none, false, .lda 2 (.t 10)⟩, false, 0, 1),
  (⟨some 57, none, false, .bsl 2 1 [(.int .i64 0), (.int .i64 0)] [(0, (.t 56))]⟩, false, 2, 1),
  (⟨some 58, none, false, .mv (.t 11)⟩, false, 0, 0),
  (⟨some 59, none, false, .mv (.t 12)⟩, false, 0, 0),
  (⟨some 60, none, false, .iad 1 (.t 58) (.t 59)⟩, false, 24, 0),
  (⟨some 61, none, false, .ldc (.t 60)⟩, false, 56, 3),
  (⟨some 62, none, false, .app 2 16 (.t 57) (.t 61)⟩, true, 126, 1),
  (⟨some 63, none, false, .bsl 1 1 [(.slice none 0 0)] [(0, (.t 62))]⟩, true, 254, 1),
  (⟨some 64, none, false, .app 1 24 (.t 55) (.t 63)⟩, true, 511, 1),
  (⟨some 7, none, false, .mv (.t 64)⟩, false, 1023, 0)] (some [0, 4, 7, 8, 9, 10, 11, 12])
def ir51_9 : IC := .block 5 ir51_r14
def ir51_r13 : IC := .reg [⟨some 53, none, false, .mv (.t 12)⟩,
  ⟨some 54, none, false, .ar .add (.t 53) (.k (.int .i64 1))⟩,
  ⟨some 12, none, false, .mv (.t 54)⟩] (some [0, 4, 7, 8, 9, 10, 11, 12])
def ir51_10 : IC := .seq ir51_9 ir51_r13
def ir51_11 : IC := .seq ir51_8 ir51_10
def ir51_12 : IC := .loop ir51_11
def ir51_13 : IC := .block 4 ir51_12
def ir51_14 : IC := .seq ir51_r11 ir51_13
def ir51_15 : IC := .seq ir51_r10 ir51_14
def ir51_16 : IC := .seq ir51_6 ir51_15
def ir51_17 : IC := .seq ir51_r8 ir51_16
def ir51_18 : IC := .block 3 ir51_17
def ir51_r7 : IC := .reg [⟨some 32, none, false, .mv (.t 9)⟩,
  ⟨some 33, none, false, .ar .add (.t 32) (.k (.int .i64 1))⟩,
  ⟨some 9, none, false, .mv (.t 33)⟩] (some [0, 4, 7, 8, 9])
def ir51_19 : IC := .seq ir51_18 ir51_r7
def ir51_20 : IC := .seq ir51_4 ir51_19
def ir51_21 : IC := .loop ir51_20
def ir51_22 : IC := .block 2 ir51_21
def ir51_23 : IC := .seq ir51_r5 ir51_22
def ir51_24 : IC := .block 1 ir51_23
def ir51_r4 : IC := .reg [⟨some 20, none, false, .mv (.t 8)⟩,
  ⟨some 21, none, false, .ar .add (.t 20) (.k (.int .i64 1))⟩,
  ⟨some 8, none, false, .mv (.t 21)⟩] (some [0, 4, 7, 8])
def ir51_25 : IC := .seq ir51_24 ir51_r4
def ir51_26 : IC := .seq ir51_2 ir51_25
def ir51_27 : IC := .loop ir51_26
def ir51_28 : IC := .block 0 ir51_27
def ir51_29 : IC := .seq ir51_r2 ir51_28
def ir51_r15 : IC := .reg [⟨some 65, none, false, .mv (.t 7)⟩,
  ⟨some 6, none, false, .mv (.t 65)⟩] (some [6])
def ir51_30 : IC := .seq ir51_r15 .ret
def ir51_31 : IC := .seq ir51_29 ir51_30
def ir51_32 : IC := .seq ir51_r1 ir51_31
def ir51_33 : IC := .seq ir51_r0 ir51_32
def ir51 : IC := ir51_33
theorem fn51 : FnIs Try.prog 51 ir51 66 [.tmp 6] := ⟨Try.f51, Try.f51.body.getD .skip, Try.func51, by kernel_rfl, by kernel_rfl, by kernel_rfl, by kernel_rfl⟩
abbrev crM (n c : Nat) (l : List St) (k1 k2 k3 : Int) : List (Option AObj) := [none, some (.cells ⟨rows eII l, 0, false⟩), some (.cells ⟨[.int .i64 k1, .int .i64 k2, .int .i64 k3], 1, false⟩)]
/-- What stands of the rest's list. -/
structure RsL (L : List (Option AObj)) (B : Nat) (ys : List (List Bl)) : Prop where
  inn : ∀ i, (h : i < ys.length) → L[B + i]? = some (some (inO ys[i]))
  out : L[B + ys.length]? = some (some (ouO (List.range' B ys.length) ys))
theorem crO_rs (L : List (Option AObj)) (ys : List (List Bl)) : RsL (L ++ (crO L.length ys).map some) L.length ys :=
  ⟨fun i h => by rw [apd_get, List.getElem?_map, crO_get _ _ _ h]; rfl, by rw [apd_get, List.getElem?_map, crO_last]; rfl⟩
set_option maxHeartbeats 1000000 in
theorem crop_step (n c : Nat) (l : List St) (k1 k2 k3 f : Int) (R : Int → List (List Bl)) (hn : l.length = n) (hc : checkF l (k1, k2, k3) = 0) (hl : lenF l ≤ 11) (hf : 0 ≤ f) (hf2 : f ≤ 40) (hR : ∀ f, 0 ≤ f → (R f).length ≤ 200000)
    (hRL : ∀ f, ∀ x ∈ R f, x.length ≤ 100)
    (IH : ∀ f', f < f' → f' ≤ 40 → f < lenF l → ∀ {h : AH} {s : Value}, h.sees 0 = true → Rd h s n (rows eII l) → Fc Try.prog 51 [s, sawV k1 k2 k3, .int .i64 f'] h (ouV (h.next + (R f').length) (R f')) (h.news (crO h.next (R f')))) :
    Fc Try.prog 51 [s1 n c, sawV k1 k2 k3, .int .i64 f] (Hp 2 [none, some (.cells ⟨rows eII l, 0, false⟩)]) (ouV (2 + (kpA l k1 k2 k3 R f (lenF l - f).toNat).length) (kpA l k1 k2 k3 R f (lenF l - f).toNat)) ((Hp 2 [none, some (.cells ⟨rows eII l, 0, false⟩)]).news (crO 2 (kpA l k1 k2 k3 R f (lenF l - f).toNat))) := by
  have hok := checkF_ok hc
  have hb : n ≤ 1000 := by omega
  have hob : 1 < openB := by unfold openB; omega
  refine Fc.introR fn51 (by simp) rfl rfl ?_; simp only [argF]
  refine ITri.seq ?_
  refine ITri.reg pok ?_; simp -implicitDefEqProofs (disch := first | decide | exact of_eq_true (eq_true rfl) | omega | assumption) only [ ↓vcD, vcE, evs, evP, evB, intsOf, fillC, Value.cells, pt, List.append_nil, List.nil_append, List.cons_append, List.length_cons, List.length_nil, List.filter_nil, List.map_nil, ↓List.getElem?_cons_zero, ↓List.getElem?_cons_succ, List.getElem?_cons_zero, List.getElem?_cons_succ, List.set_cons_zero, List.set_cons_succ, Option.join_some, Option.join_none, Option.map_some, List.all_cons, List.all_nil, Value.oneCell', reduceIte, reduceCtorEq, Nat.reduceEqDiff, Nat.reduceAdd, Nat.reduceMul, Nat.reduceLT, Nat.reduceBEq, Nat.reduceLeDiff, Nat.reduceSub, List.size_toArray] -- r0 ref.go:81
  refine ITri.seq ?_
  refine ITri.reg pok ?_; simp -implicitDefEqProofs (disch := first | decide | exact of_eq_true (eq_true rfl) | omega | assumption) only [ ↓vcD, vcE, evs, evP, evB, intsOf, fillC, Value.cells, pt, List.append_nil, List.nil_append, List.cons_append, List.length_cons, List.length_nil, List.filter_nil, List.map_nil, ↓List.getElem?_cons_zero, ↓List.getElem?_cons_succ, List.getElem?_cons_zero, List.getElem?_cons_succ, List.set_cons_zero, List.set_cons_succ, Option.join_some, Option.join_none, Option.map_some, List.all_cons, List.all_nil, Value.oneCell', reduceIte, reduceCtorEq, Nat.reduceEqDiff, Nat.reduceAdd, Nat.reduceMul, Nat.reduceLT, Nat.reduceBEq, Nat.reduceLeDiff, Nat.reduceSub, List.size_toArray] -- r1 ref.go:82
  refine ITri.seq ?_
  refine ITri.seq ?_
  refine ITri.reg pok ?_; simp -implicitDefEqProofs (disch := first | decide | exact of_eq_true (eq_true rfl) | omega | assumption) only [ ↓vcD, vcE, evs, evP, evB, intsOf, fillC, Value.cells, pt, List.append_nil, List.nil_append, List.cons_append, List.length_cons, List.length_nil, List.filter_nil, List.map_nil, ↓List.getElem?_cons_zero, ↓List.getElem?_cons_succ, List.getElem?_cons_zero, List.getElem?_cons_succ, List.set_cons_zero, List.set_cons_succ, Option.join_some, Option.join_none, Option.map_some, List.all_cons, List.all_nil, Value.oneCell', reduceIte, reduceCtorEq, Nat.reduceEqDiff, Nat.reduceAdd, Nat.reduceMul, Nat.reduceLT, Nat.reduceBEq, Nat.reduceLeDiff, Nat.reduceSub, List.size_toArray] -- r2 ref.go:83
  refine ITri.block ?_ -- 0
  refine ITri.loop (fun i : Nat × List (Option AObj) × Nat × List Nat => [(0, s1 n c), (4, pt 2), (7, ouV i.2.2.1 (kpA l k1 k2 k3 R f i.1)), (8, .int .i64 (f + i.1))]) (fun _ => []) (fun i => Hp 2 i.2.1) (fun i => i.1 ≤ (lenF l - f).toNat ∧ Cr (crM n c l k1 k2 k3) i.2.1 i.2.2.1 i.2.2.2 (kpA l k1 k2 k3 R f i.1)) (fun i => (lenF l - f).toNat - i.1) (0, _, 4, [3]) ⟨Nat.zero_le _, ?_⟩ (Wk.sub ⟨rfl, rfl, rfl, by simp [lk], trivial⟩) fun i hi => ?_
  · refine ⟨fun k o h => ?_, rfl, fun i k x h1 h2 => ?_, rfl, (show [3, 4].Nodup by decide), fun k hk => ?_⟩
    · have hk := (List.getElem?_eq_some_iff.1 h).1
      rw [show (crM n c l k1 k2 k3).length = 3 from rfl] at hk
      match k, hk with
      | 0, _ => exact h
      | 1, _ => exact h
      | 2, _ => exact h
    · match i, h1, h2 with
      | 0, h1, h2 => cases h1; cases h2; rfl
    · simp at hk
      rcases hk with rfl | rfl
      · exact (show 3 ≤ 3 by decide)
      · exact (show 3 ≤ 4 by decide)
  obtain ⟨j, L, ko, ks⟩ := i
  obtain ⟨hj, C⟩ := hi
  have hA := kpA_le (l := l) (k1 := k1) (k2 := k2) (k3 := k3) hR (by omega) (by omega) (by omega) f hf j
  simp only at hj C ⊢
  have hL1 : L[1]? = some (some (.cells ⟨rows eII l, 0, false⟩)) := C.base 1 _ rfl
  have hL2 : L[2]? = some (some (.cells ⟨[.int .i64 k1, .int .i64 k2, .int .i64 k3], 1, false⟩)) := C.base 2 _ rfl
  have hL0 : 0 < L.length := by have := C.lt ko (by simp); omega
  have hjL1 : (L[1]?).join = some (.cells ⟨rows eII l, 0, false⟩) := by rw [hL1]; rfl
  refine ITri.seq ?_
  refine ITri.seq ?_
  refine ITri.reg pok ?_; simp -implicitDefEqProofs (disch := first | decide | exact of_eq_true (eq_true rfl) | omega | assumption) only [ ↓vcD, vcE, evs, evP, evB, intsOf, fillC, Value.cells, pt, List.append_nil, List.nil_append, List.cons_append, List.length_cons, List.length_nil, List.filter_nil, List.map_nil, ↓List.getElem?_cons_zero, ↓List.getElem?_cons_succ, List.getElem?_cons_zero, List.getElem?_cons_succ, List.set_cons_zero, List.set_cons_succ, Option.join_some, Option.join_none, Option.map_some, List.all_cons, List.all_nil, Value.oneCell', reduceIte, reduceCtorEq, Nat.reduceEqDiff, Nat.reduceAdd, Nat.reduceMul, Nat.reduceLT, Nat.reduceBEq, Nat.reduceLeDiff, Nat.reduceSub, List.size_toArray] -- r3 ref.go:83 CALLS .call F13 [%17]
  refine ⟨_, _, refLength_f n l hn hb hok.2.1 (sees0 rfl hL0) (Rd.hq rfl hjL1), ?_⟩
  try simp -implicitDefEqProofs (disch := first | decide | exact of_eq_true (eq_true rfl) | omega | assumption) only [ ↓vcD, vcE, evs, evP, evB, intsOf, fillC, Value.cells, pt, List.append_nil, List.nil_append, List.cons_append, List.length_cons, List.length_nil, List.filter_nil, List.map_nil, ↓List.getElem?_cons_zero, ↓List.getElem?_cons_succ, List.getElem?_cons_zero, List.getElem?_cons_succ, List.set_cons_zero, List.set_cons_succ, Option.join_some, Option.join_none, Option.map_some, List.all_cons, List.all_nil, Value.oneCell', reduceIte, reduceCtorEq, Nat.reduceEqDiff, Nat.reduceAdd, Nat.reduceMul, Nat.reduceLT, Nat.reduceBEq, Nat.reduceLeDiff, Nat.reduceSub, List.size_toArray]
  refine ITri.condD (by rfl) (fun h2 => ?_) (fun h2 => ?_) -- %19
  rotate_left
  · have hje : j = (lenF l - f).toNat := by omega
    refine ITri.exit ?_; try simp -implicitDefEqProofs (disch := first | decide | exact of_eq_true (eq_true rfl) | omega | assumption) only [ ↓vcD, vcE, evs, evP, evB, intsOf, fillC, Value.cells, pt, List.append_nil, List.nil_append, List.cons_append, List.length_cons, List.length_nil, List.filter_nil, List.map_nil, ↓List.getElem?_cons_zero, ↓List.getElem?_cons_succ, List.getElem?_cons_zero, List.getElem?_cons_succ, List.set_cons_zero, List.set_cons_succ, Option.join_some, Option.join_none, Option.map_some, List.all_cons, List.all_nil, Value.oneCell', reduceIte, reduceCtorEq, Nat.reduceEqDiff, Nat.reduceAdd, Nat.reduceMul, Nat.reduceLT, Nat.reduceBEq, Nat.reduceLeDiff, Nat.reduceSub, List.size_toArray]
    refine ITri.seq ?_
    refine ITri.reg pok ?_; simp -implicitDefEqProofs (disch := first | decide | exact of_eq_true (eq_true rfl) | omega | assumption) only [ ↓vcD, vcE, evs, evP, evB, intsOf, fillC, Value.cells, pt, List.append_nil, List.nil_append, List.cons_append, List.length_cons, List.length_nil, List.filter_nil, List.map_nil, ↓List.getElem?_cons_zero, ↓List.getElem?_cons_succ, List.getElem?_cons_zero, List.getElem?_cons_succ, List.set_cons_zero, List.set_cons_succ, Option.join_some, Option.join_none, Option.map_some, List.all_cons, List.all_nil, Value.oneCell', reduceIte, reduceCtorEq, Nat.reduceEqDiff, Nat.reduceAdd, Nat.reduceMul, Nat.reduceLT, Nat.reduceBEq, Nat.reduceLeDiff, Nat.reduceSub, List.size_toArray] -- r15
    refine ITri.ret ?_
    subst hje
    exact C.fin (show 2 ≤ 3 by decide) rfl
  refine ITri.skip ?_; simp only [SeqQ_normal, BlkQ_normal]
  refine ITri.seq ?_
  refine ITri.block ?_ -- 1
  refine ITri.seq ?_
  refine ITri.reg pok ?_; simp -implicitDefEqProofs (disch := first | decide | exact of_eq_true (eq_true rfl) | omega | assumption) only [hL2,  ↓vcD, vcE, evs, evP, evB, intsOf, fillC, Value.cells, pt, List.append_nil, List.nil_append, List.cons_append, List.length_cons, List.length_nil, List.filter_nil, List.map_nil, ↓List.getElem?_cons_zero, ↓List.getElem?_cons_succ, List.getElem?_cons_zero, List.getElem?_cons_succ, List.set_cons_zero, List.set_cons_succ, Option.join_some, Option.join_none, Option.map_some, List.all_cons, List.all_nil, Value.oneCell', reduceIte, reduceCtorEq, Nat.reduceEqDiff, Nat.reduceAdd, Nat.reduceMul, Nat.reduceLT, Nat.reduceBEq, Nat.reduceLeDiff, Nat.reduceSub, List.size_toArray] -- r5 ref.go:84
  refine ITri.block ?_ -- 2
  refine ITri.loop (fun i : Nat × List (Option AObj) × Nat × List Nat => [(0, s1 n c), (4, pt 2), (7, ouV i.2.2.1 (kpA l k1 k2 k3 R f j ++ kpB l k1 k2 k3 R (f + j) i.1)), (8, .int .i64 (f + j)), (9, .int .i64 (f + j + k1 + i.1))]) (fun _ => []) (fun i => Hp 2 i.2.1) (fun i => i.1 ≤ (k2 - k1 + 1).toNat ∧ Cr (crM n c l k1 k2 k3) i.2.1 i.2.2.1 i.2.2.2 (kpA l k1 k2 k3 R f j ++ kpB l k1 k2 k3 R (f + j) i.1)) (fun i => (k2 - k1 + 1).toNat - i.1) (0, L, ko, ks) ⟨Nat.zero_le _, by rw [kpB_zero, List.append_nil]; exact C⟩ (Wk.sub ⟨rfl, rfl, by simp [lk, kpB_zero], rfl, by simp [lk], trivial⟩) fun i hi => ?_
  obtain ⟨i, L, ko, ks⟩ := i
  obtain ⟨hi, C⟩ := hi
  have hB := kpB_le (l := l) (k1 := k1) (k2 := k2) (k3 := k3) hR (by omega) (by omega) (f + j) (by omega) i
  simp only at hi C ⊢
  have hL1 : L[1]? = some (some (.cells ⟨rows eII l, 0, false⟩)) := C.base 1 _ rfl
  have hL2 : L[2]? = some (some (.cells ⟨[.int .i64 k1, .int .i64 k2, .int .i64 k3], 1, false⟩)) := C.base 2 _ rfl
  have hL0 : 0 < L.length := by have := C.lt ko (by simp); omega
  refine ITri.seq ?_
  refine ITri.seq ?_
  refine ITri.reg pok ?_; simp -implicitDefEqProofs (disch := first | decide | exact of_eq_true (eq_true rfl) | omega | assumption) only [hL2,  ↓vcD, vcE, evs, evP, evB, intsOf, fillC, Value.cells, pt, List.append_nil, List.nil_append, List.cons_append, List.length_cons, List.length_nil, List.filter_nil, List.map_nil, ↓List.getElem?_cons_zero, ↓List.getElem?_cons_succ, List.getElem?_cons_zero, List.getElem?_cons_succ, List.set_cons_zero, List.set_cons_succ, Option.join_some, Option.join_none, Option.map_some, List.all_cons, List.all_nil, Value.oneCell', reduceIte, reduceCtorEq, Nat.reduceEqDiff, Nat.reduceAdd, Nat.reduceMul, Nat.reduceLT, Nat.reduceBEq, Nat.reduceLeDiff, Nat.reduceSub, List.size_toArray] -- r6 ref.go:84
  refine ITri.condD (by rfl) (fun h4 => ?_) (fun h4 => ?_) -- %31
  rotate_left
  · have hie : i = (k2 - k1 + 1).toNat := by omega
    refine ITri.exit ?_; try simp -implicitDefEqProofs (disch := first | decide | exact of_eq_true (eq_true rfl) | omega | assumption) only [ ↓vcD, vcE, evs, evP, evB, intsOf, fillC, Value.cells, pt, List.append_nil, List.nil_append, List.cons_append, List.length_cons, List.length_nil, List.filter_nil, List.map_nil, ↓List.getElem?_cons_zero, ↓List.getElem?_cons_succ, List.getElem?_cons_zero, List.getElem?_cons_succ, List.set_cons_zero, List.set_cons_succ, Option.join_some, Option.join_none, Option.map_some, List.all_cons, List.all_nil, Value.oneCell', reduceIte, reduceCtorEq, Nat.reduceEqDiff, Nat.reduceAdd, Nat.reduceMul, Nat.reduceLT, Nat.reduceBEq, Nat.reduceLeDiff, Nat.reduceSub, List.size_toArray]
    refine ITri.reg pok ?_; simp -implicitDefEqProofs (disch := first | decide | exact of_eq_true (eq_true rfl) | omega | assumption) only [ ↓vcD, vcE, evs, evP, evB, intsOf, fillC, Value.cells, pt, List.append_nil, List.nil_append, List.cons_append, List.length_cons, List.length_nil, List.filter_nil, List.map_nil, ↓List.getElem?_cons_zero, ↓List.getElem?_cons_succ, List.getElem?_cons_zero, List.getElem?_cons_succ, List.set_cons_zero, List.set_cons_succ, Option.join_some, Option.join_none, Option.map_some, List.all_cons, List.all_nil, Value.oneCell', reduceIte, reduceCtorEq, Nat.reduceEqDiff, Nat.reduceAdd, Nat.reduceMul, Nat.reduceLT, Nat.reduceBEq, Nat.reduceLeDiff, Nat.reduceSub, List.size_toArray] -- r4 ref.go:83
    refine LoopQ.next (j + 1, L, ko, ks) ⟨by simp only; omega, ?_⟩ (by simp only; omega) (Wk.sub ⟨rfl, rfl, ?_, ?_, trivial⟩)
    · rw [kpA_succ, ← hie]; exact C
    · rw [kpA_succ, ← hie]; rfl
    · simp [lk]; omega
  refine ITri.skip ?_; simp only [SeqQ_normal, BlkQ_normal]
  refine ITri.seq ?_
  refine ITri.cut (fun q : List (Option AObj) × Nat × List Nat => [(0, s1 n c), (4, pt 2), (7, ouV q.2.1 (kpA l k1 k2 k3 R f j ++ kpB l k1 k2 k3 R (f + j) (i + 1))), (8, .int .i64 (f + j)), (9, .int .i64 (f + j + k1 + i))]) (fun _ => []) (fun q => Hp 2 q.1) (fun q => Cr (crM n c l k1 k2 k3) q.1 q.2.1 q.2.2 (kpA l k1 k2 k3 R f j ++ kpB l k1 k2 k3 R (f + j) (i + 1))) ?_ (fun q hq => ?_)
  rotate_left
  · obtain ⟨L, ko, ks⟩ := q
    simp only at hq ⊢
    refine ITri.reg pok ?_; simp -implicitDefEqProofs (disch := first | decide | exact of_eq_true (eq_true rfl) | omega | assumption) only [ ↓vcD, vcE, evs, evP, evB, intsOf, fillC, Value.cells, pt, List.append_nil, List.nil_append, List.cons_append, List.length_cons, List.length_nil, List.filter_nil, List.map_nil, ↓List.getElem?_cons_zero, ↓List.getElem?_cons_succ, List.getElem?_cons_zero, List.getElem?_cons_succ, List.set_cons_zero, List.set_cons_succ, Option.join_some, Option.join_none, Option.map_some, List.all_cons, List.all_nil, Value.oneCell', reduceIte, reduceCtorEq, Nat.reduceEqDiff, Nat.reduceAdd, Nat.reduceMul, Nat.reduceLT, Nat.reduceBEq, Nat.reduceLeDiff, Nat.reduceSub, List.size_toArray] -- r7 ref.go:84
    refine LoopQ.next (i + 1, L, ko, ks) ⟨by simp only; omega, hq⟩ (by simp only; omega) (Wk.sub ⟨rfl, rfl, rfl, rfl, ?_, trivial⟩)
    simp [lk]; omega
  refine ITri.block ?_ -- 3
  refine ITri.seq ?_
  have hL3 : 2 ≤ L.length := by have := C.lt ko (by simp); have := C.ge ko (by simp); have : 3 ≤ ko := this; omega
  refine ITri.reg pok ?_; simp -implicitDefEqProofs (disch := first | decide | exact of_eq_true (eq_true rfl) | omega | assumption) only [apd_get, apd_get0, apd_set0, apd_set, List.length_append, List.append_assoc, Nat.add_assoc, hL3,  ↓vcD, vcE, evs, evP, evB, intsOf, fillC, Value.cells, pt, List.append_nil, List.nil_append, List.cons_append, List.length_cons, List.length_nil, List.filter_nil, List.map_nil, ↓List.getElem?_cons_zero, ↓List.getElem?_cons_succ, List.getElem?_cons_zero, List.getElem?_cons_succ, List.set_cons_zero, List.set_cons_succ, Option.join_some, Option.join_none, Option.map_some, List.all_cons, List.all_nil, Value.oneCell', reduceIte, reduceCtorEq, Nat.reduceEqDiff, Nat.reduceAdd, Nat.reduceMul, Nat.reduceLT, Nat.reduceBEq, Nat.reduceLeDiff, Nat.reduceSub, List.size_toArray] -- r8 ref.go:85
  have C1 := C.mono (grow_app L [some (.cells ⟨[.int .i64 (f + j), .int .i64 (f + j + k1 + i)], 1, false⟩)])
  have hM1 := C1.base 1 _ rfl
  have hM2 := C1.base 2 _ rfl
  have hjM1 : (((L ++ [some (AObj.cells ⟨[.int .i64 (f + j), .int .i64 (f + j + k1 + i)], 1, false⟩)])[1]?).join) = some (.cells ⟨rows eII l, 0, false⟩) := by rw [hM1]; rfl
  have hM0 : 0 < (L ++ [some (AObj.cells ⟨[.int .i64 (f + j), .int .i64 (f + j + k1 + i)], 1, false⟩)]).length := by simp
  refine ITri.seq ?_
  refine ITri.seq ?_
  refine ITri.reg pok ?_; simp -implicitDefEqProofs (disch := first | decide | exact of_eq_true (eq_true rfl) | omega | assumption) only [apd_get, apd_get0, apd_set0, apd_set, List.length_append, List.append_assoc, Nat.add_assoc, hM2,  ↓vcD, vcE, evs, evP, evB, intsOf, fillC, Value.cells, pt, List.append_nil, List.nil_append, List.cons_append, List.length_cons, List.length_nil, List.filter_nil, List.map_nil, ↓List.getElem?_cons_zero, ↓List.getElem?_cons_succ, List.getElem?_cons_zero, List.getElem?_cons_succ, List.set_cons_zero, List.set_cons_succ, Option.join_some, Option.join_none, Option.map_some, List.all_cons, List.all_nil, Value.oneCell', reduceIte, reduceCtorEq, Nat.reduceEqDiff, Nat.reduceAdd, Nat.reduceMul, Nat.reduceLT, Nat.reduceBEq, Nat.reduceLeDiff, Nat.reduceSub, List.size_toArray] -- r9 ref.go:86 CALLS .call F27 [%37, %38, %39]
  refine ⟨_, _, refAllowed_f n l k1 k2 k3 (f + j) (f + j + k1 + i) hn hb hok.2.1 (by omega) (sees0 rfl hM0) (Rd.hq rfl hjM1), ?_⟩
  cases hal : alF l k1 k2 (f + j) (f + j + k1 + i) with
  | false =>
    simp -implicitDefEqProofs (disch := first | decide | exact of_eq_true (eq_true rfl) | omega | assumption) only [hal,  ↓vcD, vcE, evs, evP, evB, intsOf, fillC, Value.cells, pt, List.append_nil, List.nil_append, List.cons_append, List.length_cons, List.length_nil, List.filter_nil, List.map_nil, ↓List.getElem?_cons_zero, ↓List.getElem?_cons_succ, List.getElem?_cons_zero, List.getElem?_cons_succ, List.set_cons_zero, List.set_cons_succ, Option.join_some, Option.join_none, Option.map_some, List.all_cons, List.all_nil, Value.oneCell', reduceIte, reduceCtorEq, Nat.reduceEqDiff, Nat.reduceAdd, Nat.reduceMul, Nat.reduceLT, Nat.reduceBEq, Nat.reduceLeDiff, Nat.reduceSub, List.size_toArray]
    refine ITri.cond (v := true) rfl (fun _ => ?_) (fun h => by cases h)
    refine ITri.exit ?_; try simp -implicitDefEqProofs (disch := first | decide | exact of_eq_true (eq_true rfl) | omega | assumption) only [ ↓vcD, vcE, evs, evP, evB, intsOf, fillC, Value.cells, pt, List.append_nil, List.nil_append, List.cons_append, List.length_cons, List.length_nil, List.filter_nil, List.map_nil, ↓List.getElem?_cons_zero, ↓List.getElem?_cons_succ, List.getElem?_cons_zero, List.getElem?_cons_succ, List.set_cons_zero, List.set_cons_succ, Option.join_some, Option.join_none, Option.map_some, List.all_cons, List.all_nil, Value.oneCell', reduceIte, reduceCtorEq, Nat.reduceEqDiff, Nat.reduceAdd, Nat.reduceMul, Nat.reduceLT, Nat.reduceBEq, Nat.reduceLeDiff, Nat.reduceSub, List.size_toArray]
    have e1 : kpB l k1 k2 k3 R (f + j) (i + 1) = kpB l k1 k2 k3 R (f + j) i := by
      rw [kpB_succ]
      unfold kpC
      rw [hal, if_neg (by simp), List.append_nil]
    refine CutQ.mk (_, ko, ks) ?_ (Wk.sub ⟨rfl, rfl, ?_, rfl, rfl, trivial⟩)
    · rw [e1]; exact C1
    · rw [e1]; rfl
  | true =>
  have ha := al_out hal
  simp -implicitDefEqProofs (disch := first | decide | exact of_eq_true (eq_true rfl) | omega | assumption) only [hal,  ↓vcD, vcE, evs, evP, evB, intsOf, fillC, Value.cells, pt, List.append_nil, List.nil_append, List.cons_append, List.length_cons, List.length_nil, List.filter_nil, List.map_nil, ↓List.getElem?_cons_zero, ↓List.getElem?_cons_succ, List.getElem?_cons_zero, List.getElem?_cons_succ, List.set_cons_zero, List.set_cons_succ, Option.join_some, Option.join_none, Option.map_some, List.all_cons, List.all_nil, Value.oneCell', reduceIte, reduceCtorEq, Nat.reduceEqDiff, Nat.reduceAdd, Nat.reduceMul, Nat.reduceLT, Nat.reduceBEq, Nat.reduceLeDiff, Nat.reduceSub, List.size_toArray]
  refine ITri.cond (v := false) rfl (fun h => by cases h) (fun _ => ?_); refine ITri.skip ?_; simp only [SeqQ_normal, BlkQ_normal]
  refine ITri.seq ?_
  refine ITri.reg pok ?_; simp -implicitDefEqProofs (disch := first | decide | exact of_eq_true (eq_true rfl) | omega | assumption) only [apd_get, apd_get0, apd_set0, apd_set, List.length_append, List.append_assoc, Nat.add_assoc, hM2,  ↓vcD, vcE, evs, evP, evB, intsOf, fillC, Value.cells, pt, List.append_nil, List.nil_append, List.cons_append, List.length_cons, List.length_nil, List.filter_nil, List.map_nil, ↓List.getElem?_cons_zero, ↓List.getElem?_cons_succ, List.getElem?_cons_zero, List.getElem?_cons_succ, List.set_cons_zero, List.set_cons_succ, Option.join_some, Option.join_none, Option.map_some, List.all_cons, List.all_nil, Value.oneCell', reduceIte, reduceCtorEq, Nat.reduceEqDiff, Nat.reduceAdd, Nat.reduceMul, Nat.reduceLT, Nat.reduceBEq, Nat.reduceLeDiff, Nat.reduceSub, List.size_toArray] -- r10 ref.go:89 CALLS .call F51 [%42, %43, %47]
  refine ⟨_, _, IH (f + j + k1 + i + k3) (by omega) (by omega) (by omega) (sees0 rfl hM0) (Rd.hq rfl hjM1), ?_⟩
  simp -implicitDefEqProofs (disch := first | decide | exact of_eq_true (eq_true rfl) | omega | assumption) only [Hq_news,  ↓vcD, vcE, evs, evP, evB, intsOf, fillC, Value.cells, pt, List.append_nil, List.nil_append, List.cons_append, List.length_cons, List.length_nil, List.filter_nil, List.map_nil, ↓List.getElem?_cons_zero, ↓List.getElem?_cons_succ, List.getElem?_cons_zero, List.getElem?_cons_succ, List.set_cons_zero, List.set_cons_succ, Option.join_some, Option.join_none, Option.map_some, List.all_cons, List.all_nil, Value.oneCell', reduceIte, reduceCtorEq, Nat.reduceEqDiff, Nat.reduceAdd, Nat.reduceMul, Nat.reduceLT, Nat.reduceBEq, Nat.reduceLeDiff, Nat.reduceSub, List.size_toArray]
  have C2 := C1.mono (grow_app _ ((crO (L ++ [some (AObj.cells ⟨[.int .i64 (f + j), .int .i64 (f + j + k1 + i)], 1, false⟩)]).length (R (f + j + k1 + i + k3))).map some))
  have RS := crO_rs (L ++ [some (AObj.cells ⟨[.int .i64 (f + j), .int .i64 (f + j + k1 + i)], 1, false⟩)]) (R (f + j + k1 + i + k3))
  have eB : kpB l k1 k2 k3 R (f + j) (i + 1) = kpB l k1 k2 k3 R (f + j) i ++ (R (f + j + k1 + i + k3)).map ((f + j, f + j + k1 + (i : Int)) :: ·) := by
    rw [kpB_succ]
    unfold kpC
    rw [hal, if_pos rfl]
  rw [eB, ← List.append_assoc]
  have hgX := grow_app (L ++ [some (AObj.cells ⟨[.int .i64 (f + j), .int .i64 (f + j + k1 + i)], 1, false⟩)]) ((crO (L ++ [some (AObj.cells ⟨[.int .i64 (f + j), .int .i64 (f + j + k1 + i)], 1, false⟩)]).length (R (f + j + k1 + i + k3))).map some) L.length _ apd_get0
  have hys := hR (f + j + k1 + i + k3) (by omega)
  have hRx := hRL (f + j + k1 + i + k3)
  have hXS : (kpA l k1 k2 k3 R f j ++ kpB l k1 k2 k3 R (f + j) i).length ≤ 2000000000 ∧ 1 ≤ (kpA l k1 k2 k3 R f j ++ kpB l k1 k2 k3 R (f + j) i).length := by
    rw [List.length_append]
    have h5 : j * 120000000 ≤ 11 * 120000000 := Nat.mul_le_mul_right _ (by omega)
    have h6 : i * 200000 ≤ 600 * 200000 := Nat.mul_le_mul_right _ (by omega)
    omega
  have hgB : (L ++ [some (AObj.cells ⟨[.int .i64 (f + j), .int .i64 (f + j + k1 + i)], 1, false⟩)]).length = L.length + 1 := by simp
  have hkX : ko < L.length := C.lt ko (by simp)
  refine ITri.seq ?_
  refine ITri.reg pok ?_; simp -implicitDefEqProofs (disch := first | decide | exact of_eq_true (eq_true rfl) | omega | assumption) only [ ↓vcD, vcE, evs, evP, evB, intsOf, fillC, Value.cells, pt, List.append_nil, List.nil_append, List.cons_append, List.length_cons, List.length_nil, List.filter_nil, List.map_nil, ↓List.getElem?_cons_zero, ↓List.getElem?_cons_succ, List.getElem?_cons_zero, List.getElem?_cons_succ, List.set_cons_zero, List.set_cons_succ, Option.join_some, Option.join_none, Option.map_some, List.all_cons, List.all_nil, Value.oneCell', reduceIte, reduceCtorEq, Nat.reduceEqDiff, Nat.reduceAdd, Nat.reduceMul, Nat.reduceLT, Nat.reduceBEq, Nat.reduceLeDiff, Nat.reduceSub, List.size_toArray] -- r11
  generalize kpA l k1 k2 k3 R f j ++ kpB l k1 k2 k3 R (f + j) i = XS at *
  generalize R (f + j + k1 + i + k3) = ys at *
  generalize ((L ++ [some (AObj.cells ⟨[.int .i64 (f + j), .int .i64 (f + j + k1 + i)], 1, false⟩)]) ++ (crO (L ++ [some (AObj.cells ⟨[.int .i64 (f + j), .int .i64 (f + j + k1 + i)], 1, false⟩)]).length ys).map some) = L1 at *
  generalize (L ++ [some (AObj.cells ⟨[.int .i64 (f + j), .int .i64 (f + j + k1 + i)], 1, false⟩)]).length = B at *
  generalize L.length = gX at *
  refine ITri.block ?_ -- 4
  have hgX1 : gX < L1.length := (List.getElem?_eq_some_iff.1 hgX).1
  have hB1 : B + ys.length < L1.length := (List.getElem?_eq_some_iff.1 RS.out).1
  clear hjM1 hM0 hM1 hM2 hL0 hL1 hL2 IH C C1 hB eB hal
  refine ITri.loop (fun q : Nat × List (Option AObj) × Nat × List Nat => [(0, s1 n c), (4, pt 2), (7, ouV q.2.2.1 (XS ++ (ys.take q.1).map ((f + j, f + j + k1 + (i : Int)) :: ·))), (8, .int .i64 (f + j)), (9, .int .i64 (f + j + k1 + i)), (10, pt gX), (11, ouV (B + ys.length) ys), (12, .int .i64 q.1)]) (fun _ => []) (fun q => Hp 2 q.2.1)
    (fun q => q.1 ≤ ys.length ∧ Cr (crM n c l k1 k2 k3) q.2.1 q.2.2.1 q.2.2.2 (XS ++ (ys.take q.1).map ((f + j, f + j + k1 + (i : Int)) :: ·)) ∧ RsL q.2.1 B ys ∧ q.2.1[gX]? = some (some (.cells ⟨[.int .i64 (f + j), .int .i64 (f + j + k1 + i)], 1, false⟩)) ∧ (q.2.2.1 < gX ∨ B + ys.length < q.2.2.1))
    (fun q => ys.length - q.1) (0, L1, ko, ks) ⟨Nat.zero_le _, by simpa using C2, RS, hgX, .inl hkX⟩ (Wk.sub ⟨rfl, rfl, by simp [lk], rfl, rfl, rfl, rfl, rfl, trivial⟩) fun q hq => ?_
  clear C2 RS hgX hgX1 hB1 hkX
  obtain ⟨k, L1, ko, ks⟩ := q
  obtain ⟨hk, C, RS, hgX, hkX⟩ := hq
  simp only at hk C RS hgX hkX ⊢
  refine ITri.seq ?_
  refine ITri.seq ?_
  simp only [show ouV (B + ys.length) ys = .slice (some ⟨B + ys.length, 0, none⟩) ys.length (capC ys.length) from rfl]
  refine ITri.reg pok ?_; simp -implicitDefEqProofs (disch := first | decide | exact of_eq_true (eq_true rfl) | omega | assumption) only [ ↓vcD, vcE, evs, evP, evB, intsOf, fillC, Value.cells, pt, List.append_nil, List.nil_append, List.cons_append, List.length_cons, List.length_nil, List.filter_nil, List.map_nil, ↓List.getElem?_cons_zero, ↓List.getElem?_cons_succ, List.getElem?_cons_zero, List.getElem?_cons_succ, List.set_cons_zero, List.set_cons_succ, Option.join_some, Option.join_none, Option.map_some, List.all_cons, List.all_nil, Value.oneCell', reduceIte, reduceCtorEq, Nat.reduceEqDiff, Nat.reduceAdd, Nat.reduceMul, Nat.reduceLT, Nat.reduceBEq, Nat.reduceLeDiff, Nat.reduceSub, List.size_toArray] -- r12 ref.go:90
  refine ITri.condD (by rfl) (fun h7 => ?_) (fun h7 => ?_) -- %52
  rotate_left
  · refine ITri.exit ?_; try simp -implicitDefEqProofs (disch := first | decide | exact of_eq_true (eq_true rfl) | omega | assumption) only [ ↓vcD, vcE, evs, evP, evB, intsOf, fillC, Value.cells, pt, List.append_nil, List.nil_append, List.cons_append, List.length_cons, List.length_nil, List.filter_nil, List.map_nil, ↓List.getElem?_cons_zero, ↓List.getElem?_cons_succ, List.getElem?_cons_zero, List.getElem?_cons_succ, List.set_cons_zero, List.set_cons_succ, Option.join_some, Option.join_none, Option.map_some, List.all_cons, List.all_nil, Value.oneCell', reduceIte, reduceCtorEq, Nat.reduceEqDiff, Nat.reduceAdd, Nat.reduceMul, Nat.reduceLT, Nat.reduceBEq, Nat.reduceLeDiff, Nat.reduceSub, List.size_toArray]
    have hke : k = ys.length := by omega
    subst hke
    rw [List.take_length] at C ⊢
    exact CutQ.mk (L1, ko, ks) C (Wk.sub ⟨rfl, rfl, rfl, rfl, rfl, trivial⟩)
  refine ITri.skip ?_; simp only [SeqQ_normal, BlkQ_normal]
  have hk7 : k < ys.length := by omega
  obtain ⟨x, hyx⟩ : ∃ x, ys[k]? = some x := ⟨_, List.getElem?_eq_getElem hk7⟩
  have hxs : ys.take (k + 1) = ys.take k ++ [x] := by rw [List.take_add_one, hyx]; rfl
  have hin : L1[B + k]? = some (some (inO x)) := by
    rw [RS.inn k hk7]
    rw [List.getElem?_eq_getElem hk7] at hyx
    cases hyx
    rfl
  have hsl : (slK (List.range' B ys.length) ys)[k]? = some (slV (B + k) x) := slK_get (by rw [List.getElem?_range' hk7, Nat.one_mul]) hyx
  have hlen : (XS ++ (ys.take k).map ((f + j, f + j + k1 + (i : Int)) :: ·)).length = XS.length + k := by simp; omega
  have hxe : XS ++ (ys.take (k + 1)).map ((f + j, f + j + k1 + (i : Int)) :: ·) = (XS ++ (ys.take k).map ((f + j, f + j + k1 + (i : Int)) :: ·)) ++ [(f + j, f + j + k1 + (i : Int)) :: x] := by rw [hxs]; simp
  generalize (XS ++ (ys.take k).map ((f + j, f + j + k1 + (i : Int)) :: ·)) = xs at *
  have hkoL : ko < L1.length := C.lt ko (by simp)
  have hyL : B + ys.length < L1.length := (List.getElem?_eq_some_iff.1 RS.out).1
  have hko : ∀ T, (L1 ++ T)[ko]? = some (some (.cells ⟨slK ks xs, 1, decide (2 ≤ xs.length)⟩)) := fun T => apd_low _ C.out
  have hx : ∀ T, (L1 ++ T)[gX]? = some (some (.cells ⟨[.int .i64 (f + j), .int .i64 (f + j + k1 + i)], 1, false⟩)) := fun T => apd_low _ hgX
  have hyo : ∀ T, (L1 ++ T)[B + ys.length]? = some (some (.cells ⟨slK (List.range' B ys.length) ys, 1, decide (2 ≤ ys.length)⟩)) := fun T => apd_low _ RS.out
  have hyi : ∀ T, (L1 ++ T)[B + k]? = some (some (.cells ⟨rows eII x, 2, decide (2 ≤ x.length)⟩)) := fun T => apd_low _ hin
  have hfr : freeOf [(L1.length, L1.length + 1)] (B + ys.length) = true := by
    simp only [freeOf, List.all_cons, List.all_nil, Bool.and_true, Bool.or_eq_true, Nat.blt_eq, Nat.ble_eq]
    omega
  have hblt : Nat.blt L1.length (L1.length + 1) = true := by rw [Nat.blt_eq]; omega
  have hsl' : (slK (List.range' B ys.length) ys)[k]? = some (.slice (some ⟨B + k, 0, none⟩) x.length (capC x.length)) := hsl
  have hw : wOKm 56 [(2, L1.length, L1.length + 1)] = true := by simp [wOKm]
  have hhid : hidL 56 [(2, L1.length, L1.length + 1)] = [(L1.length, L1.length + 1)] := by
    rw [hidL_hid (by rw [hblt]; rfl)]
    rfl
  have hxsL : xs.length ≤ 3000000000 := by omega
  simp only [show ouV ko xs = .slice (some ⟨ko, 0, none⟩) xs.length (capC xs.length) from rfl]
  refine ITri.seq ?_
  refine ITri.block ?_ -- 5
  have hapG : xs.length = 1 → ∀ T (k2 o2 c2 : Nat) (K : Value → AH → Prop), appK (Hq 2 [] (L1 ++ T)) 1 24 (.slice (some ⟨ko, 0, none⟩) 1 1) (.slice (some ⟨k2, o2, none⟩) 1 c2) K =
      (match cellsAt (Hq 2 [] (L1 ++ T)) k2 o2 1 with
       | some new => chk ((2 * 2 + 1024) * 24 ≤ 281474976710656) (K (.slice (some ⟨(L1 ++ T).length, 0, none⟩) 2 openB) (Hq 2 [] (L1 ++ (T ++ [some (AObj.cells ⟨slK ks xs ++ new, 1, true⟩)]))))
       | none => False) := fun ho T k2 o2 c2 K => by
    simp only [← List.append_assoc]
    exact appK_g rfl (by rw [hko]; rfl) (by rw [slK_len C.len, ho]) (by decide) (by decide) hob (by decide)
  have hapO : ∀ T (k2 o2 c2 : Nat) (K : Value → AH → Prop), xs.length ≠ 1 → appK (Hq 2 [] (L1 ++ T)) 1 24 (.slice (some ⟨ko, 0, none⟩) xs.length openB) (.slice (some ⟨k2, o2, none⟩) 1 c2) K =
      (match cellsAt (Hq 2 [] (L1 ++ T)) k2 o2 1 with
       | some new => chk (2 ≤ ko ∧ (2 * (xs.length + 1) + 1024) * 24 ≤ 281474976710656) (new.all Value.oneCell' = true ∧ K (.slice (some ⟨(L1 ++ T).length, 0, none⟩) (xs.length + 1) openB) (Hq 2 [] ((L1 ++ (T ++ [some (AObj.cells ⟨slK ks xs ++ new, 1, true⟩)])).set ko none)))
       | none => False) := fun T k2 o2 c2 K ho => by
    simp only [← List.append_assoc]
    exact appK_o rfl (by rw [hko, show decide (2 ≤ xs.length) = true from decide_eq_true (by omega)]; rfl) (by rw [slK_len C.len, Nat.mul_one]) (by decide)
  have hko2 : 2 ≤ ko := by have := C.ge ko (by simp); have : 3 ≤ ko := this; omega
  have hend : ∀ (L' : List (Option AObj)) (kn kr : Nat), (∀ (k : Nat) (o : Option AObj), k ≠ ko → L1[k]? = some o → L'[k]? = some o) → L'[kn]? = some (some (inO ((f + j, f + j + k1 + (i : Int)) :: x))) → L1.length ≤ kn → L1.length ≤ kr → kr ≠ kn → L'[kr]? = some (some (ouO (ks ++ [kn]) (xs ++ [(f + j, f + j + k1 + (i : Int)) :: x]))) →
      k + 1 ≤ ys.length ∧ Cr (crM n c l k1 k2 k3) L' kr (ks ++ [kn]) (XS ++ (ys.take (k + 1)).map ((f + j, f + j + k1 + (i : Int)) :: ·)) ∧ RsL L' B ys ∧ L'[gX]? = some (some (.cells ⟨[.int .i64 (f + j), .int .i64 (f + j + k1 + i)], 1, false⟩)) ∧ (kr < gX ∨ B + ys.length < kr) := fun L' kn kr q1 q2 q3 q4 q5 q6 => by
    have hlt := C.lt
    refine ⟨hk7, ?_, ⟨fun t ht => q1 _ _ (by omega) (RS.inn t ht), q1 _ _ (by omega) RS.out⟩, q1 _ _ (by omega) hgX, .inr (by omega)⟩
    rw [hxe]
    refine C.push q1 q2 (Nat.le_trans (show 3 ≤ L1.length by omega) q3) (fun hm => ?_) q4 q5 q6
    have := hlt _ hm
    omega
  have hval : ∀ kr, Value.slice (some ⟨kr, 0, none⟩) (xs.length + 1) openB = ouV kr (XS ++ (ys.take (k + 1)).map ((f + j, f + j + k1 + (i : Int)) :: ·)) := fun kr => by
    rw [hxe]
    unfold ouV
    rw [List.length_append, List.length_singleton]
    congr 1
    exact (if_neg (by omega)).symm
  have hset : ∀ (T : List (Option AObj)) (k : Nat) (o : Option AObj), k ≠ ko → L1[k]? = some o → ((L1 ++ T).set ko none)[k]? = some o := fun T k o h h2 => by
    rw [List.getElem?_set_ne (fun e => h e.symm)]
    exact apd_low _ h2
  have hseT : ∀ (T : List (Option AObj)) (i : Nat), ((L1 ++ T).set ko none)[L1.length + i]? = T[i]? := fun T i => by
    rw [List.getElem?_set_ne (by omega), apd_get]
  have hseT0 : ∀ (T : List (Option AObj)), ((L1 ++ T).set ko none)[L1.length]? = T[0]? := fun T => hseT T 0
  have hou : ∀ kn, ouO (ks ++ [kn]) (xs ++ [(f + j, f + j + k1 + (i : Int)) :: x]) = .cells ⟨slK ks xs ++ [slV kn ((f + j, f + j + k1 + (i : Int)) :: x)], 1, true⟩ := fun kn => by
    unfold ouO
    rw [slK_snoc _ _ C.len, show decide (2 ≤ (xs ++ [(f + j, f + j + k1 + (i : Int)) :: x]).length) = true from decide_eq_true (by simp; omega)]
  by_cases hx0 : x = []
  · subst hx0
    have hz : capC ([] : List Bl).length = 0 := rfl
    by_cases ho : xs.length = 1
    · have hcp : capC xs.length = 1 := by unfold capC; rw [ho]; rfl
      rw [hcp, ho]
      refine ITri.draw pok ?_; simp -implicitDefEqProofs (disch := first | decide | exact of_eq_true (eq_true rfl) | omega | assumption) only [hcp, ho, hz, apd_get, apd_get0, apd_set0, apd_set, List.length_append, List.append_assoc, Nat.add_assoc, hgX, hx, hko, hyo, hyi, hsl', hw, hhid, appK_z, hapG ho,  ↓vcD, vcE, evs, evP, evB, intsOf, fillC, Value.cells, pt, List.append_nil, List.nil_append, List.cons_append, List.length_cons, List.length_nil, List.filter_nil, List.map_nil, ↓List.getElem?_cons_zero, ↓List.getElem?_cons_succ, List.getElem?_cons_zero, List.getElem?_cons_succ, List.set_cons_zero, List.set_cons_succ, Option.join_some, Option.join_none, Option.map_some, List.all_cons, List.all_nil, Value.oneCell', reduceIte, reduceCtorEq, Nat.reduceEqDiff, Nat.reduceAdd, Nat.reduceMul, Nat.reduceLT, Nat.reduceBEq, Nat.reduceLeDiff, Nat.reduceSub, List.size_toArray]
      refine ITri.reg pok ?_; simp -implicitDefEqProofs (disch := first | decide | exact of_eq_true (eq_true rfl) | omega | assumption) only [ ↓vcD, vcE, evs, evP, evB, intsOf, fillC, Value.cells, pt, List.append_nil, List.nil_append, List.cons_append, List.length_cons, List.length_nil, List.filter_nil, List.map_nil, ↓List.getElem?_cons_zero, ↓List.getElem?_cons_succ, List.getElem?_cons_zero, List.getElem?_cons_succ, List.set_cons_zero, List.set_cons_succ, Option.join_some, Option.join_none, Option.map_some, List.all_cons, List.all_nil, Value.oneCell', reduceIte, reduceCtorEq, Nat.reduceEqDiff, Nat.reduceAdd, Nat.reduceMul, Nat.reduceLT, Nat.reduceBEq, Nat.reduceLeDiff, Nat.reduceSub, List.size_toArray]
      refine LoopQ.next (k + 1, _, L1.length + 2, ks ++ [L1.length]) (hend _ L1.length (L1.length + 2) (fun k o _ h => apd_low _ h) (by rw [apd_get0]; rfl) (Nat.le_refl _) (by omega) (by omega) (by rw [apd_get, hou]; rfl)) (by simp only; omega) (Wk.sub ⟨rfl, rfl, ?_, rfl, rfl, rfl, rfl, rfl, trivial⟩)
      rw [← hval, ho]; rfl
    · have hcp : capC xs.length = openB := if_neg (by omega)
      rw [hcp]
      refine ITri.draw pok ?_; simp -implicitDefEqProofs (disch := first | decide | exact of_eq_true (eq_true rfl) | omega | assumption) only [hcp, ho, hz, apd_get, apd_get0, apd_set0, apd_set, List.length_append, List.append_assoc, Nat.add_assoc, hgX, hx, hko, hyo, hyi, hsl', hw, hhid, appK_z, hapO,  ↓vcD, vcE, evs, evP, evB, intsOf, fillC, Value.cells, pt, List.append_nil, List.nil_append, List.cons_append, List.length_cons, List.length_nil, List.filter_nil, List.map_nil, ↓List.getElem?_cons_zero, ↓List.getElem?_cons_succ, List.getElem?_cons_zero, List.getElem?_cons_succ, List.set_cons_zero, List.set_cons_succ, Option.join_some, Option.join_none, Option.map_some, List.all_cons, List.all_nil, Value.oneCell', reduceIte, reduceCtorEq, Nat.reduceEqDiff, Nat.reduceAdd, Nat.reduceMul, Nat.reduceLT, Nat.reduceBEq, Nat.reduceLeDiff, Nat.reduceSub, List.size_toArray]
      refine ITri.reg pok ?_; simp -implicitDefEqProofs (disch := first | decide | exact of_eq_true (eq_true rfl) | omega | assumption) only [ ↓vcD, vcE, evs, evP, evB, intsOf, fillC, Value.cells, pt, List.append_nil, List.nil_append, List.cons_append, List.length_cons, List.length_nil, List.filter_nil, List.map_nil, ↓List.getElem?_cons_zero, ↓List.getElem?_cons_succ, List.getElem?_cons_zero, List.getElem?_cons_succ, List.set_cons_zero, List.set_cons_succ, Option.join_some, Option.join_none, Option.map_some, List.all_cons, List.all_nil, Value.oneCell', reduceIte, reduceCtorEq, Nat.reduceEqDiff, Nat.reduceAdd, Nat.reduceMul, Nat.reduceLT, Nat.reduceBEq, Nat.reduceLeDiff, Nat.reduceSub, List.size_toArray]
      refine LoopQ.next (k + 1, _, L1.length + 2, ks ++ [L1.length]) (hend _ L1.length (L1.length + 2) (hset _) (by rw [hseT0]; rfl) (Nat.le_refl _) (by omega) (by omega) (by rw [hseT, hou]; rfl)) (by simp only; omega) (Wk.sub ⟨rfl, rfl, ?_, rfl, rfl, rfl, rfl, rfl, trivial⟩)
      rw [← hval]; rfl
  · have hx1 : x.length ≠ 0 := fun e => hx0 (List.eq_nil_of_length_eq_zero e)
    have hcx : openB = capC (x.length + 1) := (if_neg (by omega)).symm
    have hxl := hRx _ (List.mem_of_getElem? hyx)
    have hapI : ∀ (c2 : Nat) (K : Value → AH → Prop), appK (Hq 2 [] (L1 ++ [some (.cells ⟨[.int .i64 (f + j), .int .i64 (f + j + k1 + i)], 2, false⟩)])) 2 16 (.slice (some ⟨L1.length, 0, none⟩) 1 1) (.slice (some ⟨B + k, 0, none⟩) x.length c2) K =
        K (.slice (some ⟨L1.length + 1, 0, none⟩) (x.length + 1) (capC (x.length + 1))) (Hq 2 [] (L1 ++ [some (.cells ⟨[.int .i64 (f + j), .int .i64 (f + j + k1 + i)], 2, false⟩), some (.cells ⟨rows eII ((f + j, f + j + k1 + (i : Int)) :: x), 2, true⟩)])) := fun c2 K => by
      rw [appK_g rfl (by rw [apd_get0]; rfl) rfl (by decide) (by omega) hob hx1, cellsAt_H, hyi, Option.join_some, getCs_cells, takeC_0 _ _ (by rw [rows_len])]
      simp only [Nat.add_comm 1, ← hcx, List.length_append, List.length_singleton, List.append_assoc, List.cons_append, List.nil_append]
      rw [chk_true (by omega)]
      rfl
    have hio : inO ((f + j, f + j + k1 + (i : Int)) :: x) = .cells ⟨rows eII ((f + j, f + j + k1 + (i : Int)) :: x), 2, true⟩ := by
      unfold inO
      rw [show decide (2 ≤ ((f + j, f + j + k1 + (i : Int)) :: x).length) = true from decide_eq_true (by simp; omega)]
    by_cases ho : xs.length = 1
    · have hcp : capC xs.length = 1 := by unfold capC; rw [ho]; rfl
      rw [hcp, ho]
      refine ITri.draw pok ?_; simp -implicitDefEqProofs (disch := first | decide | exact of_eq_true (eq_true rfl) | omega | assumption) only [hcp, ho, apd_get, apd_get0, apd_set0, apd_set, List.length_append, List.append_assoc, Nat.add_assoc, hgX, hx, hko, hyo, hyi, hsl', hw, hhid, hapI, hapG ho,  ↓vcD, vcE, evs, evP, evB, intsOf, fillC, Value.cells, pt, List.append_nil, List.nil_append, List.cons_append, List.length_cons, List.length_nil, List.filter_nil, List.map_nil, ↓List.getElem?_cons_zero, ↓List.getElem?_cons_succ, List.getElem?_cons_zero, List.getElem?_cons_succ, List.set_cons_zero, List.set_cons_succ, Option.join_some, Option.join_none, Option.map_some, List.all_cons, List.all_nil, Value.oneCell', reduceIte, reduceCtorEq, Nat.reduceEqDiff, Nat.reduceAdd, Nat.reduceMul, Nat.reduceLT, Nat.reduceBEq, Nat.reduceLeDiff, Nat.reduceSub, List.size_toArray]
      refine ITri.reg pok ?_; simp -implicitDefEqProofs (disch := first | decide | exact of_eq_true (eq_true rfl) | omega | assumption) only [ ↓vcD, vcE, evs, evP, evB, intsOf, fillC, Value.cells, pt, List.append_nil, List.nil_append, List.cons_append, List.length_cons, List.length_nil, List.filter_nil, List.map_nil, ↓List.getElem?_cons_zero, ↓List.getElem?_cons_succ, List.getElem?_cons_zero, List.getElem?_cons_succ, List.set_cons_zero, List.set_cons_succ, Option.join_some, Option.join_none, Option.map_some, List.all_cons, List.all_nil, Value.oneCell', reduceIte, reduceCtorEq, Nat.reduceEqDiff, Nat.reduceAdd, Nat.reduceMul, Nat.reduceLT, Nat.reduceBEq, Nat.reduceLeDiff, Nat.reduceSub, List.size_toArray]
      refine LoopQ.next (k + 1, _, L1.length + 3, ks ++ [L1.length + 1]) (hend _ (L1.length + 1) (L1.length + 3) (fun k o _ h => apd_low _ h) (by rw [apd_get, hio]; rfl) (by omega) (by omega) (by omega) (by rw [apd_get, hou]; rfl)) (by simp only; omega) (Wk.sub ⟨rfl, rfl, ?_, rfl, rfl, rfl, rfl, rfl, trivial⟩)
      rw [← hval, ho]; rfl
    · have hcp : capC xs.length = openB := if_neg (by omega)
      rw [hcp]
      refine ITri.draw pok ?_; simp -implicitDefEqProofs (disch := first | decide | exact of_eq_true (eq_true rfl) | omega | assumption) only [hcp, ho, apd_get, apd_get0, apd_set0, apd_set, List.length_append, List.append_assoc, Nat.add_assoc, hgX, hx, hko, hyo, hyi, hsl', hw, hhid, hapI, hapO,  ↓vcD, vcE, evs, evP, evB, intsOf, fillC, Value.cells, pt, List.append_nil, List.nil_append, List.cons_append, List.length_cons, List.length_nil, List.filter_nil, List.map_nil, ↓List.getElem?_cons_zero, ↓List.getElem?_cons_succ, List.getElem?_cons_zero, List.getElem?_cons_succ, List.set_cons_zero, List.set_cons_succ, Option.join_some, Option.join_none, Option.map_some, List.all_cons, List.all_nil, Value.oneCell', reduceIte, reduceCtorEq, Nat.reduceEqDiff, Nat.reduceAdd, Nat.reduceMul, Nat.reduceLT, Nat.reduceBEq, Nat.reduceLeDiff, Nat.reduceSub, List.size_toArray]
      refine ITri.reg pok ?_; simp -implicitDefEqProofs (disch := first | decide | exact of_eq_true (eq_true rfl) | omega | assumption) only [ ↓vcD, vcE, evs, evP, evB, intsOf, fillC, Value.cells, pt, List.append_nil, List.nil_append, List.cons_append, List.length_cons, List.length_nil, List.filter_nil, List.map_nil, ↓List.getElem?_cons_zero, ↓List.getElem?_cons_succ, List.getElem?_cons_zero, List.getElem?_cons_succ, List.set_cons_zero, List.set_cons_succ, Option.join_some, Option.join_none, Option.map_some, List.all_cons, List.all_nil, Value.oneCell', reduceIte, reduceCtorEq, Nat.reduceEqDiff, Nat.reduceAdd, Nat.reduceMul, Nat.reduceLT, Nat.reduceBEq, Nat.reduceLeDiff, Nat.reduceSub, List.size_toArray]
      refine LoopQ.next (k + 1, _, L1.length + 3, ks ++ [L1.length + 1]) (hend _ (L1.length + 1) (L1.length + 3) (hset _) (by rw [hseT, hio]; rfl) (by omega) (by omega) (by omega) (by rw [hseT, hou]; rfl)) (by simp only; omega) (Wk.sub ⟨rfl, rfl, ?_, rfl, rfl, rfl, rfl, rfl, trivial⟩)
      rw [← hval]; rfl

theorem kpN_depth {l : List St} {k1 k2 k3 : Int} : ∀ (d : Nat) (f : Int), ∀ x ∈ kpN l k1 k2 k3 d f, x.length ≤ d
  | 0, f, x, h => by
    simp only [kpN, List.mem_singleton] at h
    subst h
    simp
  | d + 1, f, x, h => by
    simp only [kpN, kpA, List.mem_cons, List.mem_flatMap, List.mem_range, kpB, kpC] at h
    rcases h with rfl | ⟨i, hi, j, hj, h⟩
    · simp
    · split at h
      · rw [List.mem_map] at h
        obtain ⟨r, hr, rfl⟩ := h
        have := kpN_depth d _ r hr
        simp only [List.length_cons]
        omega
      · simp at h
theorem kpN_small {l : List St} {k1 k2 k3 : Int} (hc : checkF l (k1, k2, k3) = 0) (hl : lenF l ≤ 11) (d : Nat) {f : Int} (hf : 0 ≤ f) : (kpN l k1 k2 k3 d f).length ≤ 200000 := by
  have hok := checkF_ok hc
  have h1 := kpN_len (l := l) (k2 := k2) hok.2.2.2.1 hok.2.2.2.2.2.2.1 d f
  have h2 := pow3_le (m := (lenF l - f).toNat) (n := 11) (by omega)
  have h3 : 3 ^ 11 ≤ 200000 := by decide
  omega
/-- The list of all croppings. -/
theorem crop_f (n : Nat) (l : List St) (k1 k2 k3 : Int) (hn : l.length = n) (hc : checkF l (k1, k2, k3) = 0) (hl : lenF l ≤ 11) : ∀ (d : Nat) (f : Int), d ≤ 100 → 0 ≤ f → f ≤ 40 → lenF l ≤ f + d → ∀ {h : AH} {s : Value}, h.sees 0 = true → Rd h s n (rows eII l) →
    Fc Try.prog 51 [s, sawV k1 k2 k3, .int .i64 f] h (ouV (h.next + (kpN l k1 k2 k3 d f).length) (kpN l k1 k2 k3 d f)) (h.news (crO h.next (kpN l k1 k2 k3 d f))) := by
  have hok := checkF_ok hc
  intro d
  induction d with
  | zero =>
    intro f hd hf hf2 hlf h s h0 r
    refine Fc.crop (post := [sawV k1 k2 k3, .int .i64 f]) rfl (rows_no (f := eII) l) (fun c => ?_) h0 r
    have := crop_step n c l k1 k2 k3 f (fun _ => []) hn hc hl hf hf2 (fun _ _ => by simp) (fun _ _ hx => by cases hx) (fun f' _ _ h3 => by omega)
    rw [show (lenF l - f).toNat = 0 by omega, kpA_zero, Hq_news] at this
    exact this
  | succ d ih =>
    intro f hd hf hf2 hlf h s h0 r
    refine Fc.crop (post := [sawV k1 k2 k3, .int .i64 f]) rfl (rows_no (f := eII) l) (fun c => ?_) h0 r
    have := crop_step n c l k1 k2 k3 f (kpN l k1 k2 k3 d) hn hc hl hf hf2 (fun f hf => kpN_small hc hl d hf) (fun f x hx => Nat.le_trans (kpN_depth d f x hx) (by omega)) (fun f' h1 h2 _ => fun h0 r => ih f' (by omega) (by omega) h2 (by omega) h0 r)
    rw [Hq_news] at this
    exact this
end Go.Proofs.Ytlkfcbdbieenhaa
