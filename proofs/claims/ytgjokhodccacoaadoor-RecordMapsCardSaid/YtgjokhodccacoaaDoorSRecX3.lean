import Derived.Test.YtgjokhodccacoaaDoorSRecX2
set_option linter.unusedSimpArgs false
set_option linter.unusedVariables false
namespace Go.Vm
open Go Go.RowKit
section
variable {P : Program} {w : Bool} {t el : TypeId} {f : TypeInfo} {k n c o : Nat} {l : Fr} {h : AH} {K : Value → AH → Prop}
theorem bi_lenS {args : List X} {s : ByteArray} {m : Int} (hl : evs l args = some [.string s]) (e : ∀ ty, pureRun P (Builtin.len_ #[t] ty #[.string s]) = some (.int .i64 m)) (q : K (.int .i64 m) h) : iStep P w (.bi .len #[t] args) l h K := by
 show match evs l args with
  | some vs => ∃ v h', (∀ ty, aBuiltin P h .len #[t] ty vs = some (v, h')) ∧ K v h'
  | none => False
 rw [hl]
 refine ⟨_, _, fun ty => ?_, q⟩
 have e1 : noAddrs [Value.string s] = true := rfl
 simp only [aBuiltin, e1, if_true, e, noAddr]
theorem bi_copyS {t2 : TypeId} {args : List X} {dl m : Nat} {b : Blk} {s : ByteArray} {cs : List Value} (hu : P.underlying t = some (.slice el)) (hi : P.info? el = some f) (hsz : f.size = 1) (hl : evs l args = some [.slice (some ⟨k, o, none⟩) dl c, .string s]) (hss : s.size = m) (hmn : m ≤ dl) (hn : m ≠ 0)
    (hg : h.get k = some (.cells b)) (hcs : ((s.extract 0 m).data.map fun b => Value.int .u8 b.toNat).toList = cs) (hcl : cs.length = m) (hlen : o + m ≤ b.cells.length) (hw : h.wlim ≤ k) (h1 : cs.all Value.oneCell' = true) (he : b.esz ≠ 0)
    (q : K (.int .i64 m) (h.put k (some (.cells { b with cells := writeAt b.cells o cs })))) : iStep P w (.bi .copy #[t, t2] args) l h K := by
 show match evs l args with
  | some vs => ∃ v h', (∀ ty, aBuiltin P h .copy #[t, t2] ty vs = some (v, h')) ∧ K v h'
  | none => False
 rw [hl]
 refine ⟨_, _, fun ty => ?_, q⟩
 have e1 : aFirst h 1 m (.string s) = some cs := by
  show (if _ then some _ else none) = _
  rw [hcs, if_pos (by omega)]
 have e2 : cs.isEmpty = false := by
  cases cs with
  | nil => simp at hcl; omega
  | cons _ _ => rfl
 show aCopy P h #[t, t2] _ _ = _
 have e3 : (#[t, t2] : Array TypeId)[0]? = some t := rfl
 have e4 : lenA (.string s) = some m := by rw [← hss]; rfl
 have e5 : Nat.min m dl = m := Nat.min_eq_left hmn
 simp only [aCopy, e3, hu, e4, hi, hsz, hg, e5, e1]
 rw [if_pos ⟨hw, by omega, h1, he⟩, e2]
 simp
end
end Go.Vm
namespace Go.Proofs.YtgjokhodccacoaaDoor
open Go.RowKit Go.Vm
set_option maxRecDepth 100000
def ir72_r0 : IC := .reg [⟨some 4, none, false, .mv (.k (.int .i64 0))⟩,
 ⟨some 5, none, false, .mv (.k .nilIface)⟩] (some [0, 1])
def ir72_r1 : IC := .reg [⟨some 8, none, false, .mv (.t 0)⟩,
 ⟨some 9, none, false, .nilck (.t 8)⟩,
 ⟨some 10, none, false, .fad 2 (.t 9)⟩,
 ⟨none, none, false, .st 1 (.t 10) (.k (.int .i8 0))⟩] (some [0, 1])
def ir72_r2 : IC := .reg [⟨some 12, none, false, .mv (.t 0)⟩,
 ⟨some 13, none, false, .mv (.t 1)⟩,
 ⟨some 14, none, false, .bi .len #[9] [(.t 13)]⟩,
 ⟨some 15, none, false, .call (.f 109) [(.t 12), (.t 14)]⟩,
 ⟨some 11, none, false, .mv (.t 15)⟩,
 ⟨some 16, none, false, .ext (.t 11) 0⟩,
 ⟨some 17, none, false, .ext (.t 11) 1⟩,
 ⟨some 6, none, false, .mv (.t 16)⟩,
 ⟨some 7, none, false, .mv (.t 17)⟩] (some [0, 1, 6, 7])
def ir72_r3 : IC := .reg [⟨some 18, none, false, .mv (.t 7)⟩,
 ⟨some 19, none, false, .not (.t 18)⟩] (some [0, 1, 6, 19])
def ir72_r4 : IC := .reg [⟨some 20, none, false, .mv (.t 0)⟩,
 ⟨some 21, none, false, .mv (.t 1)⟩,
 ⟨some 22, none, false, .bi .len #[9] [(.t 21)]⟩,
 ⟨some 23, none, false, .call (.f 110) [(.t 20), (.t 22)]⟩,
 ⟨some 6, none, false, .mv (.t 23)⟩] (some [0, 1, 6])
def ir72_1 : IC := .cond (.t 19) ir72_r4 .skip
def ir72_2 : IC := .seq ir72_r3 ir72_1
def ir72_r5 : IC := .reg [⟨some 24, none, false, .mv (.t 0)⟩,
 ⟨some 25, none, false, .nilck (.t 24)⟩,
 ⟨some 26, none, false, .fad 0 (.t 25)⟩,
 ⟨some 27, none, false, .ldc (.t 26)⟩,
 ⟨some 28, none, false, .mv (.t 6)⟩,
 ⟨some 29, none, false, .gen (.slice 22 (.tmp 27) (some (.tmp 28)) none none)⟩,
 ⟨some 30, none, false, .mv (.t 1)⟩,
 ⟨some 31, none, false, .bi .copy #[22, 9] [(.t 29), (.t 30)]⟩,
 ⟨some 4, none, false, .mv (.t 31)⟩,
 ⟨some 5, none, false, .mv (.k .nilIface)⟩] (some [4, 5])
def ir72_3 : IC := .seq ir72_r5 .ret
def ir72_4 : IC := .seq ir72_2 ir72_3
def ir72_5 : IC := .seq ir72_r2 ir72_4
def ir72_6 : IC := .seq ir72_r1 ir72_5
def ir72_7 : IC := .seq ir72_r0 ir72_6
def ir72 : IC := ir72_7
theorem fn72 : FnIs Tryd.prog 72 ir72 32 [.tmp 4, .tmp 5] := ⟨Tryd.f72, Tryd.f72.body.getD .skip, Tryd.func72, by kernel_rfl, by kernel_rfl, by kernel_rfl, by kernel_rfl⟩
def ir73_r0 : IC := .reg [⟨some 6, none, false, .alloc [(.slice none 0 0), (.int .i64 0), (.int .i8 0)]⟩] (some [0, 1, 2, 6])
def ir73_r1 : IC := .reg [⟨some 7, none, false, .mv (.t 2)⟩,
 ⟨some 8, none, false, .call (.t 7) [(.t 6)]⟩] (some [0, 1, 6])
def ir73_r2 : IC := .reg [⟨some 9, none, false, .mv (.t 0)⟩,
 ⟨some 10, none, false, .mv (.t 1)⟩,
 ⟨some 11, none, false, .fad 0 (.t 6)⟩,
 ⟨some 12, none, false, .call (.f 63) [(.t 11)]⟩,
 ⟨some 13, none, false, .call (.f 62) [(.t 9), (.t 10), (.t 12)]⟩] (some [])
def ir73_1 : IC := .seq ir73_r1 ir73_r2
def ir73_2 : IC := .seq ir73_r0 ir73_1
def ir73 : IC := ir73_2
theorem fn73 : FnIs Tryd.prog 73 ir73 14 [] := ⟨Tryd.f73, Tryd.f73.body.getD .skip, Tryd.func73, by kernel_rfl, by kernel_rfl, by kernel_rfl, by kernel_rfl⟩
section
variable {wl kb k : Nat} {L : List (Option AObj)} {bs : List Int}
theorem wstr_e {m : Nat} {s : ByteArray} {xs : List Int} (hb : L[kb]? = some bufE) (hss : s.size = m) (hlen : ∀ ty, pureRun Tryd.prog (Builtin.len_ #[9] ty #[.string s]) = some (.int .i64 m)) (hcs : ((s.extract 0 m).data.map fun b => Value.int .u8 b.toNat).toList = rows eB xs) (hxl : xs.length = m) (hwb : wl ≤ kb) (h : 0 < m) (h2 : m ≤ 64) :
    Fc Tryd.prog 72 [pt kb, .string s] (Hp wl L) (.tuple #[.int .i64 m, .nilIface]) (Hp wl (wrE L kb xs)) := by
 have hbL := get_lt hb
 have hw : writeAt (rows eB (List.replicate 64 0)) 0 (rows eB xs) = rows eB xs ++ (rows eB (List.replicate 64 0)).drop m := by
  have := writeAt_in (bs := []) (xs := xs) (ys := rows eB (List.replicate 64 0)) (n := 0) (m := m) rfl hxl
  exact this
 refine Fc.introX fn72 (by simp) (fun _ => grow_hq (by simp [wrE]) (by unfold wrE; rw [List.take_append_of_le_length (by simp; omega), set_tk hwb])) ?_; simp only [argF]
 refine ITri.seq ?_
 refine ITri.reg pok ?_; simp -implicitDefEqProofs (disch := first | decide | exact of_eq_true (eq_true rfl) | omega | assumption) only [ ↓vcD, vcE, ↓vcG, vcF, evs, evP, evB, intsOf, fillC, Value.cells, pt, Value.oneCell', reduceIte, reduceCtorEq, Nat.reduceEqDiff, Nat.reduceAdd, Nat.reduceMul, Nat.reduceLT, Nat.reduceBEq, Nat.reduceLeDiff, Nat.reduceSub]
 refine ITri.seq ?_
 refine ITri.reg pok ?_; simp -implicitDefEqProofs (disch := first | decide | exact of_eq_true (eq_true rfl) | omega | assumption) only [hb, notNil, true_and, hwb, set_id hb,  ↓vcD, vcE, ↓vcG, vcF, evs, evP, evB, intsOf, fillC, Value.cells, pt, Value.oneCell', reduceIte, reduceCtorEq, Nat.reduceEqDiff, Nat.reduceAdd, Nat.reduceMul, Nat.reduceLT, Nat.reduceBEq, Nat.reduceLeDiff, Nat.reduceSub]
 refine ITri.seq ?_
 refine ITri.reg pok ?_; simp -implicitDefEqProofs (disch := first | decide | exact of_eq_true (eq_true rfl) | omega | assumption) only [ ↓vcD, vcE, ↓vcG, vcF, evs, evP, evB, intsOf, fillC, Value.cells, pt, Value.oneCell', reduceIte, reduceCtorEq, Nat.reduceEqDiff, Nat.reduceAdd, Nat.reduceMul, Nat.reduceLT, Nat.reduceBEq, Nat.reduceLeDiff, Nat.reduceSub]
 refine bi_lenS rfl hlen ?_
 try simp -implicitDefEqProofs (disch := first | decide | exact of_eq_true (eq_true rfl) | omega | assumption) only [ ↓vcD, vcE, ↓vcG, vcF, evs, evP, evB, intsOf, fillC, Value.cells, pt, Value.oneCell', reduceIte, reduceCtorEq, Nat.reduceEqDiff, Nat.reduceAdd, Nat.reduceMul, Nat.reduceLT, Nat.reduceBEq, Nat.reduceLeDiff, Nat.reduceSub]
 refine ⟨_, _, try_e hb h, ?_⟩
 try simp -implicitDefEqProofs (disch := first | decide | exact of_eq_true (eq_true rfl) | omega | assumption) only [ ↓vcD, vcE, ↓vcG, vcF, evs, evP, evB, intsOf, fillC, Value.cells, pt, Value.oneCell', reduceIte, reduceCtorEq, Nat.reduceEqDiff, Nat.reduceAdd, Nat.reduceMul, Nat.reduceLT, Nat.reduceBEq, Nat.reduceLeDiff, Nat.reduceSub]
 refine ITri.seq ?_
 refine ITri.seq ?_
 refine ITri.reg pok ?_; simp -implicitDefEqProofs (disch := first | decide | exact of_eq_true (eq_true rfl) | omega | assumption) only [Bool.not_false,  ↓vcD, vcE, ↓vcG, vcF, evs, evP, evB, intsOf, fillC, Value.cells, pt, Value.oneCell', reduceIte, reduceCtorEq, Nat.reduceEqDiff, Nat.reduceAdd, Nat.reduceMul, Nat.reduceLT, Nat.reduceBEq, Nat.reduceLeDiff, Nat.reduceSub]
 refine ITri.cond (v := true) rfl (fun _ => ?_) (fun h => by cases h)
 refine ITri.reg pok ?_; simp -implicitDefEqProofs (disch := first | decide | exact of_eq_true (eq_true rfl) | omega | assumption) only [ ↓vcD, vcE, ↓vcG, vcF, evs, evP, evB, intsOf, fillC, Value.cells, pt, Value.oneCell', reduceIte, reduceCtorEq, Nat.reduceEqDiff, Nat.reduceAdd, Nat.reduceMul, Nat.reduceLT, Nat.reduceBEq, Nat.reduceLeDiff, Nat.reduceSub]
 refine bi_lenS rfl hlen ?_
 try simp -implicitDefEqProofs (disch := first | decide | exact of_eq_true (eq_true rfl) | omega | assumption) only [ ↓vcD, vcE, ↓vcG, vcF, evs, evP, evB, intsOf, fillC, Value.cells, pt, Value.oneCell', reduceIte, reduceCtorEq, Nat.reduceEqDiff, Nat.reduceAdd, Nat.reduceMul, Nat.reduceLT, Nat.reduceBEq, Nat.reduceLeDiff, Nat.reduceSub]
 refine ⟨_, _, grow_e hb hwb h h2, ?_⟩
 try simp -implicitDefEqProofs (disch := first | decide | exact of_eq_true (eq_true rfl) | omega | assumption) only [ ↓vcD, vcE, ↓vcG, vcF, evs, evP, evB, intsOf, fillC, Value.cells, pt, Value.oneCell', reduceIte, reduceCtorEq, Nat.reduceEqDiff, Nat.reduceAdd, Nat.reduceMul, Nat.reduceLT, Nat.reduceBEq, Nat.reduceLeDiff, Nat.reduceSub]
 have hb2 : (L.set kb (bufO (.slice (some ⟨L.length, 0, none⟩) m 64)) ++ [arB (List.replicate 64 0)])[kb]? = some (bufO (.slice (some ⟨L.length, 0, none⟩) m 64)) := low_get (set_get hb)
 have hk2 : (L.set kb (bufO (.slice (some ⟨L.length, 0, none⟩) m 64)) ++ [arB (List.replicate 64 0)])[L.length]? = some (arB (List.replicate 64 0)) := by
  rw [List.getElem?_append_right (by simp), List.length_set, Nat.sub_self]
  rfl
 refine ITri.seq ?_
 refine ITri.reg pok ?_; simp -implicitDefEqProofs (disch := first | decide | exact of_eq_true (eq_true rfl) | omega | assumption) only [hb2, notNil, true_and,  ↓vcD, vcE, ↓vcG, vcF, evs, evP, evB, intsOf, fillC, Value.cells, pt, Value.oneCell', reduceIte, reduceCtorEq, Nat.reduceEqDiff, Nat.reduceAdd, Nat.reduceMul, Nat.reduceLT, Nat.reduceBEq, Nat.reduceLeDiff, Nat.reduceSub]
 refine gen_from0 u_slB i_u8 rfl rfl rfl h2 (by unfold openB; omega) ?_
 try simp -implicitDefEqProofs (disch := first | decide | exact of_eq_true (eq_true rfl) | omega | assumption) only [ ↓vcD, vcE, ↓vcG, vcF, evs, evP, evB, intsOf, fillC, Value.cells, pt, Value.oneCell', reduceIte, reduceCtorEq, Nat.reduceEqDiff, Nat.reduceAdd, Nat.reduceMul, Nat.reduceLT, Nat.reduceBEq, Nat.reduceLeDiff, Nat.reduceSub]
 refine bi_copyS u_slB i_u8 sz_u8 rfl hss (Nat.le_refl _) (by omega) (get_hq rfl (by rw [hk2]; rfl)) hcs (by rw [rows_len]; omega) (by show 0 + m ≤ (rows eB (List.replicate 64 0)).length; rw [rows_len, List.length_replicate]; omega) (by show wl ≤ L.length; omega) (rows_one' (f := eB) _) (by show (1 : Nat) ≠ 0; decide) ?_
 rw [Hq_put L.length _ (by simp)]
 simp -implicitDefEqProofs (disch := first | decide | exact of_eq_true (eq_true rfl) | omega | assumption) only [hw,  ↓vcD, vcE, ↓vcG, vcF, evs, evP, evB, intsOf, fillC, Value.cells, pt, Value.oneCell', reduceIte, reduceCtorEq, Nat.reduceEqDiff, Nat.reduceAdd, Nat.reduceMul, Nat.reduceLT, Nat.reduceBEq, Nat.reduceLeDiff, Nat.reduceSub]
 have e1 : (L.set kb (bufO (.slice (some ⟨L.length, 0, none⟩) m 64)) ++ [arB (List.replicate 64 0)]).set L.length (some (AObj.cells ⟨rows eB xs ++ (rows eB (List.replicate 64 0)).drop m, 1, false⟩)) = L.set kb (bufO (.slice (some ⟨L.length, 0, none⟩) m 64)) ++ [some (AObj.cells ⟨rows eB xs ++ (rows eB (List.replicate 64 0)).drop m, 1, false⟩)] := by
  rw [List.set_append_right _ _ (by simp), List.length_set, Nat.sub_self]
  rfl
 rw [e1]
 have hb3 : (L.set kb (bufO (.slice (some ⟨L.length, 0, none⟩) m 64)) ++ [some (AObj.cells ⟨rows eB xs ++ (rows eB (List.replicate 64 0)).drop m, 1, false⟩)])[kb]? = some (bufO (.slice (some ⟨L.length, 0, none⟩) m 64)) := low_get (set_get hb)
 have hk3 : (L.set kb (bufO (.slice (some ⟨L.length, 0, none⟩) m 64)) ++ [some (AObj.cells ⟨rows eB xs ++ (rows eB (List.replicate 64 0)).drop m, 1, false⟩)])[L.length]? = some (some (AObj.cells ⟨rows eB xs ++ (rows eB (List.replicate 64 0)).drop m, 1, false⟩)) := by
  rw [List.getElem?_append_right (by simp), List.length_set, Nat.sub_self]
  rfl
 refine ITri.reopen (k := L.length) (kb := kb) (o := 0) (n := m) (C := 64) (by rw [hk3]; rfl) (noL_drop (rows_no (f := eB) _)) (by rw [rows_len, hxl, List.length_drop, rows_len, List.length_replicate]; omega) (by omega) h2 (by
     intro e
     have := congrArg List.length e
     rw [List.length_append, rows_len, hxl] at this
     simp at this
     omega) (by rw [hb3]; rfl) rfl (by omega) (by omega) hwb ?_
 refine ITri.ret ?_; refine EndX.mk (by simp) (resF_tmp rfl (resF_tmp rfl resF_nil)) rfl ?_
 unfold opAt wrE
 rw [List.set_append_right _ _ (by simp), List.length_set, Nat.sub_self, snoc_setl (by simp; omega), List.set_set, List.length_append, List.length_set, hxl, List.append_assoc]
 rfl
theorem one_x {g kind : Nat} {cap : List Value} {L1 : List (Option AObj)} {k1 : Nat} {pay : List Int} (W : Wr wl L kb k bs) (hk : 1 ≤ kind ∧ kind ≤ 250) (F : Fc Tryd.prog g (pt L.length :: cap) (Hp wl (L ++ [bufE])) (.tuple #[]) (Hp wl L1)) (T : WrTo wl (L ++ [bufE]) L.length L.length L1 k1 pay) (hp1 : 1 ≤ pay.length) (hp2 : pay.length ≤ 100000) (hB : isB pay) (hsz : bs.length ≤ 100000000) :
    ∃ L' k', WrTo wl L kb k L' k' (bs ++ frB kind pay) ∧ Fc Tryd.prog 73 [pt kb, .int .i64 kind, clo g cap] (Hp wl L) (.tuple #[]) (Hp wl L') := by
 have hlt := W.lt
 have hl1 : (L ++ [bufE]).length = L.length + 1 := by simp
 have hlen := T.len
 rw [hl1] at hlen
 have W1 : Wr wl L1 kb k bs := by
  refine ⟨W.hwb, ?_⟩
  have e1 : L1[kb]? = L[kb]? := by rw [T.old kb (by omega) (by omega) (by omega), List.getElem?_append_left hlt.1]
  have e2 : L1[k]? = L[k]? := by rw [T.old k (by omega) (by omega) (by omega), List.getElem?_append_left hlt.2]
  rw [e1, e2]
  exact W.st
 obtain ⟨q0, q1, q2, q3, q4⟩ : 1 ≤ pay.length ∧ L.length ≠ k1 ∧ wl ≤ k1 ∧ L1[L.length]? = some (bufO (.slice (some ⟨k1, 0, none⟩) pay.length openB)) ∧ L1[k1]? = some (opR pay) := by
  rcases T.st.st with ⟨h, _, _⟩ | h
  ·rw [h] at hp1; simp at hp1
  ·exact h
 have hT : takeC (rows eB pay) 0 pay.length = some (rows eB pay) := by
  rw [takeC_eq _ _ _ (by rw [rows_len]; omega), List.drop_zero, List.take_of_length_le (by rw [rows_len]; omega)]
 obtain ⟨L2, k2, T2, F2⟩ := frame_x (kind := kind) (m := pay.length) (k2 := k1) (o2 := 0) (c2 := openB) W1 hk q4 hT rfl (by omega) (by omega) hp2 hsz hB
 have l1 := T.st.lt
 refine ⟨L2, k2, ⟨T2.st, fun j h1 h2 h3 => ?_, by have := T2.len; omega⟩, ?_⟩
 ·rw [T2.old j (by omega) h2 h3, T.old j (by omega) (by omega) (by omega), List.getElem?_append_left h1]
 ·have hg : wl ≤ L.length → Grow (Hp wl L) (Hp wl L2) := fun hw => by
    have G1 : Grow (Hp wl L) (Hp wl (L ++ [bufE])) := grow_hq (by simp) (by rw [List.take_append_of_le_length hw])
    exact (G1.trans (F.grow (by show wl ≤ (L ++ [_]).length; omega))).trans (F2.grow (by show wl ≤ L1.length; omega))
  refine Fc.introX fn73 (by simp) hg ?_; simp only [argF]
  refine ITri.seq ?_
  refine ITri.reg pok ?_; simp -implicitDefEqProofs (disch := first | decide | exact of_eq_true (eq_true rfl) | omega | assumption) only [ ↓vcD, vcE, ↓vcG, vcF, evs, evP, evB, intsOf, fillC, Value.cells, pt, Value.oneCell', reduceIte, reduceCtorEq, Nat.reduceEqDiff, Nat.reduceAdd, Nat.reduceMul, Nat.reduceLT, Nat.reduceBEq, Nat.reduceLeDiff, Nat.reduceSub]
  refine ITri.seq ?_
  refine ITri.reg pok ?_; simp -implicitDefEqProofs (disch := first | decide | exact of_eq_true (eq_true rfl) | omega | assumption) only [ ↓vcD, vcE, ↓vcG, vcF, evs, evP, evB, intsOf, fillC, Value.cells, pt, Value.oneCell', reduceIte, reduceCtorEq, Nat.reduceEqDiff, Nat.reduceAdd, Nat.reduceMul, Nat.reduceLT, Nat.reduceBEq, Nat.reduceLeDiff, Nat.reduceSub]
  refine ⟨_, _, F, ?_⟩
  try simp -implicitDefEqProofs (disch := first | decide | exact of_eq_true (eq_true rfl) | omega | assumption) only [ ↓vcD, vcE, ↓vcG, vcF, evs, evP, evB, intsOf, fillC, Value.cells, pt, Value.oneCell', reduceIte, reduceCtorEq, Nat.reduceEqDiff, Nat.reduceAdd, Nat.reduceMul, Nat.reduceLT, Nat.reduceBEq, Nat.reduceLeDiff, Nat.reduceSub]
  refine ITri.reg pok ?_; simp -implicitDefEqProofs (disch := first | decide | exact of_eq_true (eq_true rfl) | omega | assumption) only [ ↓vcD, vcE, ↓vcG, vcF, evs, evP, evB, intsOf, fillC, Value.cells, pt, Value.oneCell', reduceIte, reduceCtorEq, Nat.reduceEqDiff, Nat.reduceAdd, Nat.reduceMul, Nat.reduceLT, Nat.reduceBEq, Nat.reduceLeDiff, Nat.reduceSub]
  refine ⟨_, _, bytes_w q3, ?_⟩
  try simp -implicitDefEqProofs (disch := first | decide | exact of_eq_true (eq_true rfl) | omega | assumption) only [ ↓vcD, vcE, ↓vcG, vcF, evs, evP, evB, intsOf, fillC, Value.cells, pt, Value.oneCell', reduceIte, reduceCtorEq, Nat.reduceEqDiff, Nat.reduceAdd, Nat.reduceMul, Nat.reduceLT, Nat.reduceBEq, Nat.reduceLeDiff, Nat.reduceSub]
  refine ⟨_, _, F2, ?_⟩
  try simp -implicitDefEqProofs (disch := first | decide | exact of_eq_true (eq_true rfl) | omega | assumption) only [ ↓vcD, vcE, ↓vcG, vcF, evs, evP, evB, intsOf, fillC, Value.cells, pt, Value.oneCell', reduceIte, reduceCtorEq, Nat.reduceEqDiff, Nat.reduceAdd, Nat.reduceMul, Nat.reduceLT, Nat.reduceBEq, Nat.reduceLeDiff, Nat.reduceSub]
  exact EndX.mk (by simp) resF_nil rfl rfl
end
def headM : List Int := [87, 77, 80, 49]
def mapB (W H : Nat) (xs : List Int) : List Int := headM ++ frB 6 (mapP W H xs)
def mapX (W H : Int) (xs : List Int) : List Int := if mOK W H xs = true then mapB W.toNat H.toNat xs else []
end Go.Proofs.YtgjokhodccacoaaDoor
