import Derived.Test.YtgjokhodccacoaaDoorSRecX1
set_option linter.unusedSimpArgs false
set_option linter.unusedVariables false
namespace Go.Proofs.YtgjokhodccacoaaDoor
open Go.RowKit Go.Vm
set_option maxRecDepth 100000
def ir89_r0 : IC := .reg [⟨some 5, none, false, .mv (.t 0)⟩,
 ⟨some 6, none, false, .fad 0 (.t 1)⟩,
 ⟨some 7, none, false, .ldc (.t 6)⟩,
 ⟨some 8, none, false, .call (.f 75) [(.t 5), (.t 7)]⟩] (some [0, 1])
def ir89_r1 : IC := .reg [⟨some 9, none, false, .mv (.t 0)⟩,
 ⟨some 10, none, false, .fad 1 (.t 1)⟩,
 ⟨some 11, none, false, .ldc (.t 10)⟩,
 ⟨some 12, none, false, .call (.f 75) [(.t 9), (.t 11)]⟩] (some [0, 1])
def ir89_r2 : IC := .reg [⟨some 13, none, false, .fad 2 (.t 1)⟩,
 ⟨some 14, none, false, .ldc (.t 13)⟩,
 ⟨some 3, none, false, .alloc [(.slice none 0 0)]⟩,
 ⟨none, none, false, .st 1 (.t 3) (.t 14)⟩] (some [0, 3])
def ir89_r3 : IC := .reg [⟨some 15, none, false, .ldc (.t 3)⟩,
 ⟨some 16, none, false, .len (.t 15)⟩,
 ⟨some 17, none, false, .cmp .gtr (.t 16) (.k (.int .i64 0))⟩] (some [0, 3, 17])
def ir89_1 : IC := .cond (.t 17) .skip (.exit 0)
def ir89_2 : IC := .seq ir89_r3 ir89_1
def ir89_r4 : IC := .reg [⟨some 18, none, false, .ldc (.t 3)⟩,
 ⟨some 19, none, false, .mkf 91 [] [(.t 3)]⟩,
 ⟨some 20, none, false, .call (.f 90) [(.t 18), (.t 19)]⟩,
 ⟨some 4, none, false, .mv (.t 20)⟩] (some [0, 3, 4])
def ir89_r5 : IC := .reg [⟨some 21, none, false, .mv (.t 4)⟩,
 ⟨some 22, none, false, .cmp .lss (.t 21) (.k (.int .i64 0))⟩] (some [0, 3, 4, 22])
def ir89_r6 : IC := .reg [⟨some 23, none, false, .ldc (.t 3)⟩,
 ⟨some 24, none, false, .len (.t 23)⟩,
 ⟨some 4, none, false, .mv (.t 24)⟩] (some [0, 3, 4])
def ir89_3 : IC := .cond (.t 22) ir89_r6 .skip
def ir89_4 : IC := .seq ir89_r5 ir89_3
def ir89_r7 : IC := .reg [⟨some 25, none, false, .mv (.t 0)⟩,
 ⟨some 26, none, false, .mv (.t 4)⟩,
 ⟨some 27, none, false, .ar .sub (.t 26) (.k (.int .i64 1))⟩,
 ⟨some 28, none, false, .shf .shl (.t 27) (.k (.int .u64 3))⟩,
 ⟨some 29, none, false, .ldc (.t 3)⟩,
 ⟨some 30, none, false, .iad 1 (.t 29) (.k (.int .i64 0))⟩,
 ⟨some 31, none, false, .ldc (.t 30)⟩,
 ⟨some 32, none, false, .bits .or (.t 28) (.t 31)⟩,
 ⟨some 33, none, false, .call (.f 75) [(.t 25), (.t 32)]⟩] (some [0, 3, 4])
def ir89_r8 : IC := .reg [⟨some 34, none, false, .ldc (.t 3)⟩,
 ⟨some 35, none, false, .mv (.t 4)⟩,
 ⟨some 36, none, false, .gen (.slice 54 (.tmp 34) (some (.tmp 35)) none none)⟩,
 ⟨none, none, false, .st 1 (.t 3) (.t 36)⟩] (some [0, 3])
def ir89_5 : IC := .seq ir89_r7 ir89_r8
def ir89_6 : IC := .seq ir89_4 ir89_5
def ir89_7 : IC := .seq ir89_r4 ir89_6
def ir89_8 : IC := .block 1 ir89_7
def ir89_r9 : IC := .reg [⟨some 37, none, false, .ldc (.t 3)⟩] (some [0, 37])
def ir89_r10 : IC := .reg [⟨some 3, none, false, .alloc [(.slice none 0 0)]⟩,
 ⟨none, none, false, .st 1 (.t 3) (.t 37)⟩] (some [0, 3])
def ir89_9 : IC := .seq ir89_r9 ir89_r10
def ir89_10 : IC := .seq ir89_8 ir89_9
def ir89_11 : IC := .seq ir89_2 ir89_10
def ir89_12 : IC := .loop ir89_11
def ir89_13 : IC := .block 0 ir89_12
def ir89_14 : IC := .seq ir89_r2 ir89_13
def ir89_15 : IC := .seq ir89_r1 ir89_14
def ir89_16 : IC := .seq ir89_r0 ir89_15
def ir89 : IC := ir89_16
theorem fn89 : FnIs Tryd.prog 89 ir89 38 [] := ⟨Tryd.f89, Tryd.f89.body.getD .skip, Tryd.func89, by kernel_rfl, by kernel_rfl, by kernel_rfl, by kernel_rfl⟩
theorem shl3 {a : Nat} (h1 : a < 1000000000) : shI .shl .i64 (a : Int) 3 = ((8 * a : Nat) : Int) := by
 show IntKind.i64.wrap ((a : Int) * 2 ^ (min (3 : Int).toNat 64)) = _
 rw [show (min (3 : Int).toNat 64) = 3 from rfl, show (2 : Int) ^ 3 = 8 from rfl]
 rw [show (a : Int) * 8 = ((8 * a : Nat) : Int) by omega]
 exact wrap_inR (by rw [inR_i64]; omega)
theorem bt_or3 {a b : Nat} (hb : b < 8) (ha : a < 1000000000) : btI .or .i64 ((8 * a : Nat) : Int) (b : Int) = ((8 * a + b : Nat) : Int) := by
 show IntKind.i64.wrap _ = _
 rw [show IntKind.i64.bits = 64 from rfl, BitVec.ofInt_natCast, BitVec.ofInt_natCast, BitVec.toNat_or, BitVec.toNat_ofNat, BitVec.toNat_ofNat, Nat.mod_eq_of_lt (by omega), Nat.mod_eq_of_lt (by omega), show 8 * a = 2 ^ 3 * a from rfl, ← Nat.two_pow_add_eq_or_of_lt (by omega : b < 2 ^ 3) a, wrap_nat (by omega)]
structure MS where
 L : List (Option AObj)
 k : Nat
 kl : Nat
 o : Nat
 o' : Nat
 bs : List Int
abbrev slB (ks o n c : Nat) : Option AObj := some (.cells ⟨[.slice (some ⟨ks, o, none⟩) n c], 1, false⟩)
structure MI (wl : Nat) (L0 : List (Option AObj)) (kb k0 ks n c : Nat) (xs : List Int) (ob : AObj) (Tot : List Int) (j : Nat) (s : MS) : Prop where
 wr : Wr wl s.L kb s.k s.bs
 bs1 : 1 ≤ s.bs.length
 len : L0.length ≤ s.k
 on : s.o ≤ n
 rn : j + rlN (xs.drop s.o) = rlN xs
 tot : s.bs ++ rlB (xs.drop s.o) = Tot
 box : s.L[s.kl]? = some (slB ks s.o' (n - s.o) (c - s.o))
 oo : s.o < n → s.o' = s.o
 src : s.L[ks]? = some (some ob)
 ne1 : s.kl ≠ kb
 ne2 : s.kl ≠ s.k
 lo : L0.length ≤ s.kl
 old : ∀ i, i < L0.length → i ≠ kb → i ≠ k0 → s.L[i]? = L0[i]?
abbrev frM (kb : Nat) (s : MS) : Fr := [(0, pt kb), (3, pt s.kl)]
section
variable {wl kb k0 ks n c sz bb j : Nat} {op : Bool} {L0 : List (Option AObj)} {xs Tot : List Int} {s : MS}
theorem map_round (I : MI wl L0 kb k0 ks n c xs (.cells ⟨rows eN xs, sz, op⟩) Tot j s) (hj : j < rlN xs) (hn : xs.length = n) (h7 : is7 xs) (hb : n ≤ 1000000) (hc : n ≤ c) (hco : c < openB) (hTl : Tot.length ≤ 100000000) (hk1 : ks < L0.length) (hk2 : ks ≠ kb) (hk3 : ks ≠ k0) (hwL : wl ≤ L0.length) (hkb : kb < L0.length) :
    ∃ s', MI wl L0 kb k0 ks n c xs (.cells ⟨rows eN xs, sz, op⟩) Tot (j + 1) s' ∧ ITri Tryd.prog 38 none bb ir89_10 (frM kb s) [] (Hp wl s.L) (AtF (frM kb s') (Hp wl s'.L)) := by
 obtain ⟨L, k, kl, o, o', bs⟩ := s
 obtain ⟨wr, bs1, len, on, rn, tot, box, oo, src, ne1, ne2, lo, old⟩ := I
 simp only at wr bs1 len on rn tot box oo src ne1 ne2 lo old
 have hy0 : xs.drop o ≠ [] := fun e => by rw [e, rlN_nil] at rn; omega
 have hyl : (xs.drop o).length = n - o := by rw [List.length_drop, hn]
 have hr := run_pos hy0
 have hon : o < n := by
  have : (xs.drop o).length ≠ 0 := fun e => hy0 (List.eq_nil_of_length_eq_zero e)
  omega
 obtain rfl := oo hon
 have e0 : nth (xs.drop o') 0 = nth xs o' := by rw [nth_drop, Nat.add_zero]
 have hcd := code_lt (is7_drop h7) hy0
 have hx := h7 _ (nth_mem (xs := xs) (i := o') (by omega))
 have hkl := get_lt box
 have hwlt := wr.lt
 have hstep := rlB_step hy0
 have hrn := rlN_step hy0
 generalize hm : runL (xs.drop o') = m at *
 rw [e0] at hstep hcd
 obtain ⟨x, hxx⟩ := Int.eq_ofNat_of_zero_le hx.1
 rw [hxx, Int.toNat_natCast] at hstep hcd
 have htl : bs.length + (groups (8 * (m - 1) + x)).length ≤ Tot.length := by
  rw [← tot, hstep, List.length_append, List.length_append]
  omega
 obtain ⟨L1, k1, T1, F1⟩ := number_x (N := 8 * (m - 1) + x) wr (by omega) (by omega)
 have l1 := T1.lt wr
 have box1 : L1[kl]? = some (slB ks o' (n - o') (c - o')) := by rw [T1.old kl hkl ne1 ne2]; exact box
 have src1 : L1[ks]? = some (some (AObj.cells ⟨rows eN xs, sz, op⟩)) := by rw [T1.old ks (get_lt src) hk2 (by omega)]; exact src
 have htot : bs ++ groups (8 * (m - 1) + x) ++ rlB (xs.drop (o' + m)) = Tot := by
  rw [← tot, hstep, List.drop_drop, List.append_assoc]
 have hk1L := T1.len
 have hkk : kl ≠ k1 := by omega
 refine ⟨⟨(L1.set kl (slB ks (if c - o' = m then o' else o' + m) (n - o' - m) (c - o' - m))) ++ [slB ks (if c - o' = m then o' else o' + m) (n - o' - m) (c - o' - m)], k1, L1.length, o' + m, if c - o' = m then o' else o' + m, bs ++ groups (8 * (m - 1) + x)⟩, ⟨?_, ?_, ?_, ?_, ?_, htot, ?_, ?_, ?_, ?_, ?_, ?_, ?_⟩, ?_⟩
 ·refine Wr.app ⟨wr.hwb, ?_⟩
  rcases T1.st.st with ⟨h, _⟩ | ⟨h0, h1, h2, h3, h4⟩
  ·exact absurd h (by intro e; rw [List.append_eq_nil_iff] at e; rw [e.1] at bs1; simp at bs1)
  ·exact .inr ⟨h0, h1, h2, by rw [List.getElem?_set_ne ne1]; exact h3, by rw [List.getElem?_set_ne hkk]; exact h4⟩
 ·show 1 ≤ (bs ++ _).length
  rw [List.length_append]; omega
 ·show L0.length ≤ k1
  omega
 ·show o' + m ≤ n
  omega
 ·show j + 1 + rlN (xs.drop (o' + m)) = rlN xs
  rw [← rn, hrn, List.drop_drop]
  omega
 ·show (_ ++ [_])[L1.length]? = _
  rw [List.getElem?_append_right (by simp), List.length_set, Nat.sub_self, Nat.sub_sub, Nat.sub_sub]
  rfl
 ·intro h
  have h : o' + m < n := h
  show (if c - o' = m then o' else o' + m) = o' + m
  rw [if_neg (by omega)]
 ·refine low_get ?_
  rw [List.getElem?_set_ne (by omega)]
  exact src1
 ·show L1.length ≠ kb
  omega
 ·show L1.length ≠ k1
  omega
 ·show L0.length ≤ L1.length
  omega
 ·intro i hi h1 h2
  show (_ ++ [_])[i]? = _
  rw [List.getElem?_append_left (by rw [List.length_set]; omega), List.getElem?_set_ne (by omega), T1.old i (by omega) h1 (by omega)]
  exact old i hi h1 h2
 ·have hg : (rows eN xs)[o' + Int.toNat 0]? = some (.int .i64 x) := by
    rw [← hxx]
    exact getN (by omega)
  have hm1 : (m : Int) - 1 = ((m - 1 : Nat) : Int) := by omega
  have a1 := shl3 (a := m - 1) (by omega)
  have a2 := bt_or3 (a := m - 1) (b := x) (by omega) (by omega)
  have hn0 : (0 : Int) < ((n - o' : Nat) : Int) := by omega
  have hwk : wl ≤ kl := by omega
  refine ITri.seq ?_
  refine ITri.block ?_
  refine ITri.seq ?_
  refine ITri.reg pok ?_; simp -implicitDefEqProofs (disch := first | decide | exact of_eq_true (eq_true rfl) | omega | assumption) only [box,  ↓vcD, vcE, ↓vcG, vcF, evs, evP, evB, intsOf, fillC, Value.cells, pt, Value.oneCell', reduceIte, reduceCtorEq, Nat.reduceEqDiff, Nat.reduceAdd, Nat.reduceMul, Nat.reduceLT, Nat.reduceBEq, Nat.reduceLeDiff, Nat.reduceSub]
  refine ⟨_, _, idx_x box src (by omega) (by omega) (by omega), ?_⟩
  rw [hm]
  try simp -implicitDefEqProofs (disch := first | decide | exact of_eq_true (eq_true rfl) | omega | assumption) only [ ↓vcD, vcE, ↓vcG, vcF, evs, evP, evB, intsOf, fillC, Value.cells, pt, Value.oneCell', reduceIte, reduceCtorEq, Nat.reduceEqDiff, Nat.reduceAdd, Nat.reduceMul, Nat.reduceLT, Nat.reduceBEq, Nat.reduceLeDiff, Nat.reduceSub]
  refine ITri.seq ?_
  refine ITri.cut (fun _ : Unit => [(0, pt kb), (3, pt kl), (4, .int .i64 m)]) (fun _ => []) (fun _ => Hp wl L) (fun _ => True) ?_ (fun _ _ => ?_)
  ·refine ITri.seq ?_
   by_cases hmn : m = n - o'
   ·rw [if_pos hmn]
    refine ITri.reg pok ?_; simp -implicitDefEqProofs (disch := first | decide | exact of_eq_true (eq_true rfl) | omega | assumption) only [decide_true, show ((-1 : Int) < 0) = True from eq_true (by decide),  ↓vcD, vcE, ↓vcG, vcF, evs, evP, evB, intsOf, fillC, Value.cells, pt, Value.oneCell', reduceIte, reduceCtorEq, Nat.reduceEqDiff, Nat.reduceAdd, Nat.reduceMul, Nat.reduceLT, Nat.reduceBEq, Nat.reduceLeDiff, Nat.reduceSub]
    refine ITri.cond (v := true) rfl (fun _ => ?_) (fun h => by cases h)
    refine ITri.reg pok ?_; simp -implicitDefEqProofs (disch := first | decide | exact of_eq_true (eq_true rfl) | omega | assumption) only [box,  ↓vcD, vcE, ↓vcG, vcF, evs, evP, evB, intsOf, fillC, Value.cells, pt, Value.oneCell', reduceIte, reduceCtorEq, Nat.reduceEqDiff, Nat.reduceAdd, Nat.reduceMul, Nat.reduceLT, Nat.reduceBEq, Nat.reduceLeDiff, Nat.reduceSub]
    rw [← hmn]
    exact CutQ.mk () trivial (Wk.sub ⟨rfl, rfl, rfl, trivial⟩)
   ·rw [if_neg hmn]
    have hm0 : ¬ (m : Int) < 0 := by omega
    refine ITri.reg pok ?_; simp -implicitDefEqProofs (disch := first | decide | exact of_eq_true (eq_true rfl) | omega | assumption) only [hm0, decide_false,  ↓vcD, vcE, ↓vcG, vcF, evs, evP, evB, intsOf, fillC, Value.cells, pt, Value.oneCell', reduceIte, reduceCtorEq, Nat.reduceEqDiff, Nat.reduceAdd, Nat.reduceMul, Nat.reduceLT, Nat.reduceBEq, Nat.reduceLeDiff, Nat.reduceSub]
    refine ITri.cond (v := false) rfl (fun h => by cases h) (fun _ => ?_)
    refine ITri.skip ?_
    exact CutQ.mk () trivial (Wk.sub ⟨rfl, rfl, rfl, trivial⟩)
  refine ITri.seq ?_
  refine ITri.reg pok ?_; simp -implicitDefEqProofs (disch := first | decide | exact of_eq_true (eq_true rfl) | omega | assumption) only [box, src, hg, hm1, a1, a2, hn0,  ↓vcD, vcE, ↓vcG, vcF, evs, evP, evB, intsOf, fillC, Value.cells, pt, Value.oneCell', reduceIte, reduceCtorEq, Nat.reduceEqDiff, Nat.reduceAdd, Nat.reduceMul, Nat.reduceLT, Nat.reduceBEq, Nat.reduceLeDiff, Nat.reduceSub]
  refine ⟨_, _, F1, ?_⟩
  try simp -implicitDefEqProofs (disch := first | decide | exact of_eq_true (eq_true rfl) | omega | assumption) only [ ↓vcD, vcE, ↓vcG, vcF, evs, evP, evB, intsOf, fillC, Value.cells, pt, Value.oneCell', reduceIte, reduceCtorEq, Nat.reduceEqDiff, Nat.reduceAdd, Nat.reduceMul, Nat.reduceLT, Nat.reduceBEq, Nat.reduceLeDiff, Nat.reduceSub]
  refine ITri.reg pok ?_; simp -implicitDefEqProofs (disch := first | decide | exact of_eq_true (eq_true rfl) | omega | assumption) only [box1,  ↓vcD, vcE, ↓vcG, vcF, evs, evP, evB, intsOf, fillC, Value.cells, pt, Value.oneCell', reduceIte, reduceCtorEq, Nat.reduceEqDiff, Nat.reduceAdd, Nat.reduceMul, Nat.reduceLT, Nat.reduceBEq, Nat.reduceLeDiff, Nat.reduceSub]
  refine gen_fromK (i := m) u_slI i_int sz_int rfl rfl rfl (by omega) (by omega) (by omega) ?_
  simp -implicitDefEqProofs (disch := first | decide | exact of_eq_true (eq_true rfl) | omega | assumption) only [box1, hwk,  ↓vcD, vcE, ↓vcG, vcF, evs, evP, evB, intsOf, fillC, Value.cells, pt, Value.oneCell', reduceIte, reduceCtorEq, Nat.reduceEqDiff, Nat.reduceAdd, Nat.reduceMul, Nat.reduceLT, Nat.reduceBEq, Nat.reduceLeDiff, Nat.reduceSub]
  have hx2 := set_get (y := slB ks (if c - o' = m then o' else o' + m) (n - o' - m) (c - o' - m)) box1
  have hl2 : (L1.set kl (slB ks (if c - o' = m then o' else o' + m) (n - o' - m) (c - o' - m))).length = L1.length := List.length_set
  generalize L1.set kl (slB ks (if c - o' = m then o' else o' + m) (n - o' - m) (c - o' - m)) = L2 at *
  have hw2 : wl ≤ L2.length := by omega
  rw [← hl2]
  refine ITri.seq ?_
  refine ITri.reg pok ?_; simp -implicitDefEqProofs (disch := first | decide | exact of_eq_true (eq_true rfl) | omega | assumption) only [hx2,  ↓vcD, vcE, ↓vcG, vcF, evs, evP, evB, intsOf, fillC, Value.cells, pt, Value.oneCell', reduceIte, reduceCtorEq, Nat.reduceEqDiff, Nat.reduceAdd, Nat.reduceMul, Nat.reduceLT, Nat.reduceBEq, Nat.reduceLeDiff, Nat.reduceSub]
  refine ITri.reg pok ?_; simp -implicitDefEqProofs (disch := first | decide | exact of_eq_true (eq_true rfl) | omega | assumption) only [apd_get, apd_get0, apd_set0, apd_set, List.length_append, List.append_assoc, Nat.add_assoc, hw2,  ↓vcD, vcE, ↓vcG, vcF, evs, evP, evB, intsOf, fillC, Value.cells, pt, Value.oneCell', reduceIte, reduceCtorEq, Nat.reduceEqDiff, Nat.reduceAdd, Nat.reduceMul, Nat.reduceLT, Nat.reduceBEq, Nat.reduceLeDiff, Nat.reduceSub]
  exact AtF.mk ⟨rfl, rfl, trivial⟩
def mapP (W H : Nat) (xs : List Int) : List Int := groups W ++ groups H ++ rlB xs
theorem clo89_x {W H km : Nat} (Wr0 : Wr wl L0 kb kb []) (hm : L0[km]? = some (some (AObj.cells ⟨[.int .i64 W, .int .i64 H, .slice (some ⟨ks, 0, none⟩) n c], 1, false⟩))) (hs : L0[ks]? = some (some (AObj.cells ⟨rows eN xs, sz, op⟩))) (hmk : km ≠ kb) (hsk : ks ≠ kb) (hn : xs.length = n) (h7 : is7 xs) (hb : n ≤ 1000000) (hc : n ≤ c) (hco : c < openB) (hW : W ≤ 1000) (hH : H ≤ 1000) :
    ∃ L' k', WrTo wl L0 kb kb L' k' (mapP W H xs) ∧ Fc Tryd.prog 89 [pt kb, pt km] (Hp wl L0) (.tuple #[]) (Hp wl L') := by
 have hkb := Wr0.lt.1
 have hkm := get_lt hm
 have hks := get_lt hs
 have hwL : wl ≤ L0.length := by have := Wr0.hwb; omega
 obtain ⟨gW1, gW2⟩ := groups_len (N := W) (by omega)
 obtain ⟨gH1, gH2⟩ := groups_len (N := H) (by omega)
 obtain ⟨L1, k1, T1, F1⟩ := number_x (N := W) Wr0 (by omega) (by decide)
 have l1 := T1.lt Wr0
 rw [List.nil_append] at T1
 obtain ⟨L2, k2, T2, F2⟩ := number_x (N := H) T1.st (by omega) (by omega)
 have l2 := T2.lt T1.st
 have T12 := T1.trans Wr0 T2
 have m1 : L1[km]? = some (some (AObj.cells ⟨[.int .i64 W, .int .i64 H, .slice (some ⟨ks, 0, none⟩) n c], 1, false⟩)) := by rw [T1.old km hkm hmk hmk]; exact hm
 have m2 : L2[km]? = some (some (AObj.cells ⟨[.int .i64 W, .int .i64 H, .slice (some ⟨ks, 0, none⟩) n c], 1, false⟩)) := by rw [T12.old km hkm hmk hmk]; exact hm
 have s2 : L2[ks]? = some (some (AObj.cells ⟨rows eN xs, sz, op⟩)) := by rw [T12.old ks hks hsk hsk]; exact hs
 obtain ⟨t1, t2⟩ := rlB_ok xs.length xs (Nat.le_refl _) h7 (by omega)
 have hTl : (mapP W H xs).length ≤ 100000000 := by
  unfold mapP
  rw [List.length_append, List.length_append]
  omega
 have I0 : MI wl L0 kb kb ks n c xs (.cells ⟨rows eN xs, sz, op⟩) (mapP W H xs) 0 ⟨L2 ++ [slB ks 0 n c], k2, L2.length, 0, 0, groups W ++ groups H⟩ := by
  refine ⟨T12.st.app, by rw [List.length_append]; omega, T12.len, Nat.zero_le _, by rw [List.drop_zero, Nat.zero_add], by rw [List.drop_zero]; rfl, ?_, fun _ => rfl, low_get s2, (by show L2.length ≠ kb; omega), (by show L2.length ≠ k2; omega), (by show L0.length ≤ L2.length; omega), fun i hi h1 h2 => ?_⟩
  ·show (L2 ++ _)[L2.length]? = _
   rw [List.getElem?_append_right (Nat.le_refl _), Nat.sub_self]
   rfl
  ·show (L2 ++ _)[i]? = _
   rw [List.getElem?_append_left (by omega)]
   exact T12.old i hi h1 h2
 obtain ⟨f, f0, f1, f2⟩ := seq_ex (MI wl L0 kb kb ks n c xs (.cells ⟨rows eN xs, sz, op⟩) (mapP W H xs)) (fun _ s s' => ITri Tryd.prog 38 none L0.length ir89_10 (frM kb s) [] (Hp wl s.L) (AtF (frM kb s') (Hp wl s'.L))) (rlN xs) _ I0 fun j s hj I => map_round I hj hn h7 hb hc hco hTl hks hsk hsk hwL hkb
 have Ie := f1 (rlN xs) (Nat.le_refl _)
 have e1 := rlN_0 (show rlN (xs.drop (f (rlN xs)).o) = 0 by have := Ie.rn; omega)
 have e2 := Ie.tot
 rw [e1, rlB_nil, List.append_nil] at e2
 refine ⟨(f (rlN xs)).L, (f (rlN xs)).k, ⟨e2 ▸ Ie.wr, Ie.old, Ie.len⟩, ?_⟩
 have hg : wl ≤ L0.length → Grow (Hp wl L0) (Hp wl (f (rlN xs)).L) := fun _ => grow_hq (by have := Ie.lo; have := get_lt Ie.box; omega) (by
  apply List.ext_getElem?
  intro i
  rw [List.getElem?_take, List.getElem?_take]
  split
  ·rename_i hi
   have := Wr0.hwb
   exact Ie.old i (by omega) (by omega) (by omega)
  ·rfl)
 refine Fc.introX fn89 (by simp) hg ?_; simp only [argF]
 refine ITri.seq ?_
 refine ITri.reg pok ?_; simp -implicitDefEqProofs (disch := first | decide | exact of_eq_true (eq_true rfl) | omega | assumption) only [hm,  ↓vcD, vcE, ↓vcG, vcF, evs, evP, evB, intsOf, fillC, Value.cells, pt, Value.oneCell', reduceIte, reduceCtorEq, Nat.reduceEqDiff, Nat.reduceAdd, Nat.reduceMul, Nat.reduceLT, Nat.reduceBEq, Nat.reduceLeDiff, Nat.reduceSub]
 refine ⟨_, _, F1, ?_⟩
 try simp -implicitDefEqProofs (disch := first | decide | exact of_eq_true (eq_true rfl) | omega | assumption) only [ ↓vcD, vcE, ↓vcG, vcF, evs, evP, evB, intsOf, fillC, Value.cells, pt, Value.oneCell', reduceIte, reduceCtorEq, Nat.reduceEqDiff, Nat.reduceAdd, Nat.reduceMul, Nat.reduceLT, Nat.reduceBEq, Nat.reduceLeDiff, Nat.reduceSub]
 refine ITri.seq ?_
 refine ITri.reg pok ?_; simp -implicitDefEqProofs (disch := first | decide | exact of_eq_true (eq_true rfl) | omega | assumption) only [m1,  ↓vcD, vcE, ↓vcG, vcF, evs, evP, evB, intsOf, fillC, Value.cells, pt, Value.oneCell', reduceIte, reduceCtorEq, Nat.reduceEqDiff, Nat.reduceAdd, Nat.reduceMul, Nat.reduceLT, Nat.reduceBEq, Nat.reduceLeDiff, Nat.reduceSub]
 refine ⟨_, _, F2, ?_⟩
 try simp -implicitDefEqProofs (disch := first | decide | exact of_eq_true (eq_true rfl) | omega | assumption) only [ ↓vcD, vcE, ↓vcG, vcF, evs, evP, evB, intsOf, fillC, Value.cells, pt, Value.oneCell', reduceIte, reduceCtorEq, Nat.reduceEqDiff, Nat.reduceAdd, Nat.reduceMul, Nat.reduceLT, Nat.reduceBEq, Nat.reduceLeDiff, Nat.reduceSub]
 have hw2 : wl ≤ L2.length := by omega
 refine ITri.seq ?_
 refine ITri.reg pok ?_; simp -implicitDefEqProofs (disch := first | decide | exact of_eq_true (eq_true rfl) | omega | assumption) only [m2, apd_get, apd_get0, apd_set0, apd_set, List.length_append, List.append_assoc, Nat.add_assoc, hw2,  ↓vcD, vcE, ↓vcG, vcF, evs, evP, evB, intsOf, fillC, Value.cells, pt, Value.oneCell', reduceIte, reduceCtorEq, Nat.reduceEqDiff, Nat.reduceAdd, Nat.reduceMul, Nat.reduceLT, Nat.reduceBEq, Nat.reduceLeDiff, Nat.reduceSub]
 have z0 : frM kb (f 0) = [(0, pt kb), (3, pt L2.length)] := by rw [f0]
 have z1 : (f 0).L = L2 ++ [slB ks 0 n c] := by rw [f0]
 refine ITri.block ?_
 refine ITri.loop (fun j : Nat => frM kb (f j)) (fun _ => []) (fun j => Hp wl (f j).L) (fun j => j ≤ rlN xs) (fun j => rlN xs - j) 0 (Nat.zero_le _) (by rw [z0, z1]; exact Wk.sub ⟨rfl, rfl, trivial⟩) fun j hj => ?_
 have I := f1 j hj
 refine ITri.seq ?_
 refine ITri.seq ?_
 refine ITri.reg pok ?_; simp -implicitDefEqProofs (disch := first | decide | exact of_eq_true (eq_true rfl) | omega | assumption) only [I.box,  ↓vcD, vcE, ↓vcG, vcF, evs, evP, evB, intsOf, fillC, Value.cells, pt, Value.oneCell', reduceIte, reduceCtorEq, Nat.reduceEqDiff, Nat.reduceAdd, Nat.reduceMul, Nat.reduceLT, Nat.reduceBEq, Nat.reduceLeDiff, Nat.reduceSub]
 by_cases hjN : j < rlN xs
 ·have hon : 0 < n - (f j).o := by
    have : xs.drop (f j).o ≠ [] := fun e => by have := I.rn; rw [e, rlN_nil] at this; omega
    have : (xs.drop (f j).o).length ≠ 0 := fun e => this (List.eq_nil_of_length_eq_zero e)
    rw [List.length_drop] at this
    omega
  have hon' : (0 : Int) < ((n - (f j).o : Nat) : Int) := by omega
  refine ITri.cond (v := true) (by show some (Value.bool (decide ((0 : Int) < _))) = _; rw [decide_eq_true hon']) (fun _ => ?_) (fun h => by cases h)
  refine ITri.skip ?_; simp only [SeqQ_normal, BlkQ_normal]
  refine ITri.weak (l' := frM kb (f j)) (ms' := []) (h' := Hp wl (f j).L) (Wk.sub ⟨rfl, rfl, trivial⟩) ?_
  refine ITri.atF (f2 j hjN) ?_
  exact LoopQ.next (j + 1) (by omega) (by omega) (Wk.sub ⟨rfl, rfl, trivial⟩)
 ·obtain rfl : j = rlN xs := by omega
  have hon : n - (f (rlN xs)).o = 0 := by
   have : (xs.drop (f (rlN xs)).o).length = 0 := by rw [e1]; rfl
   rw [List.length_drop] at this
   omega
  refine ITri.cond (v := false) (by show some (Value.bool (decide ((0 : Int) < ((n - (f (rlN xs)).o : Nat) : Int)))) = _; rw [hon]; rfl) (fun h => by cases h) (fun _ => ?_)
  refine ITri.exit ?_; try simp -implicitDefEqProofs (disch := first | decide | exact of_eq_true (eq_true rfl) | omega | assumption) only [ ↓vcD, vcE, ↓vcG, vcF, evs, evP, evB, intsOf, fillC, Value.cells, pt, Value.oneCell', reduceIte, reduceCtorEq, Nat.reduceEqDiff, Nat.reduceAdd, Nat.reduceMul, Nat.reduceLT, Nat.reduceBEq, Nat.reduceLeDiff, Nat.reduceSub]
  exact EndX.mk (by simp) resF_nil rfl rfl
end
end Go.Proofs.YtgjokhodccacoaaDoor
