/-
  Chapter 6: RecordTurns, by names.
-/
import Derived.Test.YtgjokhodccacoaaDoorRecC4
set_option linter.unusedSimpArgs false
set_option linter.unusedVariables false
namespace Go.Proofs.YtgjokhodccacoaaDoor
open Go.RowKit Go.Vm
set_option maxRecDepth 100000
theorem mkMq (W H q : Int) : MkL fun ss => [.agg ⟨[Value.int .i64 W, .int .i64 H] ++ ss ++ []⟩, .int .i64 q] := MkL.agg1 (MkL.mid rfl rfl) rfl
theorem len_turn {W H : Int} {xs : List Int} {q : Int} : (turnR W H xs q).1.length ≤ 1000000 := by
  unfold turnR
  split
  · rename_i h
    obtain ⟨w, h', rfl, rfl, _, _, _, _, _, hb⟩ := mOK_parts h
    split
    · show (trnF _ _ _ xs).length ≤ _
      rw [trn_len]
      simp only [Int.toNat_natCast]
      omega
    · exact Nat.zero_le _
  · exact Nat.zero_le _
theorem len_wor {W H W' H' : Int} {xs ys : List Int} : (worR W H xs W' H' ys).1.length ≤ 1000000 := by
  unfold worR
  split
  · rename_i h
    have := mOK_len (ws_parts h).1
    show (mxF xs ys xs.length).length ≤ _
    rw [mx_len]
    omega
  · exact Nat.zero_le _
theorem turn_f {k n c sz : Nat} {op : Bool} {W H : Int} {xs : List Int} (q : Int) {h : AH} (hn : xs.length = n) (hb : n ≤ 1000000) (hs : h.sees 0 = true) (hg : h.get k = some (.cells ⟨rows eN xs, sz, op⟩)) :
    Fc Tryd.prog 56 [mV k n c W H, .int .i64 q] h (tuV h.next (turnR W H xs q)) (h.news [.cells ⟨rows eN (turnR W H xs q).1, 1, true⟩]) := by
  have F : Fc Tryd.prog 56 [mV 1 n c W H, .int .i64 q] (Hp 2 [none, some (.cells ⟨rows eN xs, 0, false⟩)]) (tuV 2 (turnR W H xs q)) ((Hp 2 [none, some (.cells ⟨rows eN xs, 0, false⟩)]).news [.cells ⟨rows eN (turnR W H xs q).1, 1, true⟩]) := by
    unfold turnR
    cases h1 : mOK W H xs with
    | false => exact turn_bad n c W H xs q hn hb h1
    | true =>
      cases h2 : inT q 0 3 with
      | false => exact turn_rng n c W H xs q hn hb h1 h2
      | true =>
        obtain ⟨w, h', rfl, rfl, a1, a2, a3, a4, a5, a6⟩ := mOK_parts h1
        obtain ⟨b1, b2⟩ := inT_ok h2
        obtain ⟨q', rfl⟩ := Int.eq_ofNat_of_zero_le b1
        have := turn_ok c w h' q' xs h1 a1 a2 a3 a4 n hn (by omega) (by omega) (by omega)
        simp only [if_true, Int.toNat_natCast]
        rw [tuV, trn_len, ← a5, hn]
        exact this
  exact Fc.lift1o (os := [((turnR W H xs q).1.length, rows eN (turnR W H xs q).1, 1)]) (mk := fun ss => [.agg ⟨[Value.int .i64 W, .int .i64 H] ++ ss ++ []⟩, .int .i64 q]) (mkv := fun ss => .tuple ⟨[.agg ⟨[Value.int .i64 (turnR W H xs q).2.1, .int .i64 (turnR W H xs q).2.2.1] ++ ss ++ []⟩, .int .i64 (turnR W H xs q).2.2.2]⟩) F (mkMq W H q) (MkV.tup (mkMq _ _ _)) (rows_no (f := eN) _) (fun o h => by simp at h; subst h; exact rows_no (f := eN) _) hs hg
/-- The reference's turn, where it makes a new map. -/
theorem rturn_f {k n c sz : Nat} {op : Bool} {W H : Int} {xs : List Int} (q : Int) {h : AH} (hn : xs.length = n) (hb : n ≤ 1000000) (hq : mOK W H xs = true → q ≠ 0) (hs : h.sees 0 = true) (hg : h.get k = some (.cells ⟨rows eN xs, sz, op⟩)) :
    Fc Tryd.prog 58 [mV k n c W H, .int .i64 q] h (tuV h.next (turnR W H xs q)) (h.news [.cells ⟨rows eN (turnR W H xs q).1, 1, true⟩]) := by
  have F : Fc Tryd.prog 58 [mV 1 n c W H, .int .i64 q] (Hp 2 [none, some (.cells ⟨rows eN xs, 0, false⟩)]) (tuV 2 (turnR W H xs q)) ((Hp 2 [none, some (.cells ⟨rows eN xs, 0, false⟩)]).news [.cells ⟨rows eN (turnR W H xs q).1, 1, true⟩]) := by
    unfold turnR
    cases h1 : mOK W H xs with
    | false => exact rturn_bad n c W H xs q hn hb h1
    | true =>
      cases h2 : inT q 0 3 with
      | false => exact rturn_rng n c W H xs q hn hb h1 h2
      | true =>
        have hq := hq h1
        obtain ⟨w, h', rfl, rfl, a1, a2, a3, a4, a5, a6⟩ := mOK_parts h1
        obtain ⟨b1, b2⟩ := inT_ok h2
        obtain ⟨q', rfl⟩ := Int.eq_ofNat_of_zero_le b1
        have := rturn_ok c w h' q' xs h1 a1 a2 a3 a4 n hn (by omega) (by omega) (by omega) (by omega)
        simp only [if_true, Int.toNat_natCast]
        rw [tuV, trn_len, ← a5, hn]
        exact this
  exact Fc.lift1o (os := [((turnR W H xs q).1.length, rows eN (turnR W H xs q).1, 1)]) (mk := fun ss => [.agg ⟨[Value.int .i64 W, .int .i64 H] ++ ss ++ []⟩, .int .i64 q]) (mkv := fun ss => .tuple ⟨[.agg ⟨[Value.int .i64 (turnR W H xs q).2.1, .int .i64 (turnR W H xs q).2.2.1] ++ ss ++ []⟩, .int .i64 (turnR W H xs q).2.2.2]⟩) F (mkMq W H q) (MkV.tup (mkMq _ _ _)) (rows_no (f := eN) _) (fun o h => by simp at h; subst h; exact rows_no (f := eN) _) hs hg
/-- The same, where it returns what it was given. -/
theorem rturn_f0 {k n c sz : Nat} {op : Bool} {W H : Int} {xs : List Int} {h : AH} (hn : xs.length = n) (hm : mOK W H xs = true) (hs : h.sees 0 = true) (hg : h.get k = some (.cells ⟨rows eN xs, sz, op⟩)) :
    Fc Tryd.prog 58 [mV k n c W H, .int .i64 0] h (.tuple #[mV k n c W H, .int .i64 0]) h := by
  obtain ⟨w, h', rfl, rfl, a1, a2, a3, a4, a5, a6⟩ := mOK_parts hm
  exact Fc.lift1r (mk := fun ss => [.agg ⟨[Value.int .i64 w, .int .i64 h'] ++ ss ++ []⟩, .int .i64 0]) (mkv := fun ss => .tuple ⟨[.agg ⟨[Value.int .i64 w, .int .i64 h'] ++ ss ++ []⟩, .int .i64 0]⟩) (rturn_0 c w h' xs hm a1 a2 a3 a4 n hn (by omega) (by omega)) (mkMq _ _ _) (MkV.tup (mkMq _ _ _)) (rows_no (f := eN) _) hs hg
theorem turnR_0 {W H : Int} {xs : List Int} (hm : mOK W H xs = true) : turnR W H xs 0 = (xs, W, H, 0) := by
  obtain ⟨w, h', rfl, rfl, a1, a2, a3, a4, a5, a6⟩ := mOK_parts hm
  unfold turnR
  rw [hm]
  simp only [if_true, Int.toNat_natCast, show inT 0 0 3 = true from rfl]
  rw [show (0 : Int).toNat = 0 from rfl, trn_0 a5]
  rfl
theorem worst_fF {f : Nat} (B : ∀ (n c m d : Nat) (W H W' H' : Int) (xs ys : List Int), xs.length = n → ys.length = m → n ≤ 1000000 → m ≤ 1000000 → wsOK W H xs W' H' ys = false → Fc Tryd.prog f [mV 1 n c W H, mV 2 m d W' H'] (Hp 3 (m2 xs ys)) (tuV 3 ([], 0, 0, 2)) ((Hp 3 (m2 xs ys)).news [.cells ⟨rows eN [], 1, true⟩]))
    (O : ∀ (n c d : Nat) (W H : Int) (xs ys : List Int), xs.length = n → ys.length = n → mOK W H xs = true → mOK W H ys = true → Fc Tryd.prog f [mV 1 n c W H, mV 2 n d W H] (Hp 3 (m2 xs ys)) (.tuple #[mV 3 n openB W H, .int .i64 0]) ((Hp 3 (m2 xs ys)).news [.cells ⟨rows eN (mxF xs ys n), 1, true⟩]))
    {k n c sz k2 m d sz2 : Nat} {op op2 : Bool} {W H W' H' : Int} {xs ys : List Int} {h : AH} (hn : xs.length = n) (hm : ys.length = m) (hb : n ≤ 1000000) (hb2 : m ≤ 1000000) (hs : h.sees 0 = true) (hg : h.get k = some (.cells ⟨rows eN xs, sz, op⟩)) (hg2 : h.get k2 = some (.cells ⟨rows eN ys, sz2, op2⟩)) :
    Fc Tryd.prog f [mV k n c W H, mV k2 m d W' H'] h (tuV h.next (worR W H xs W' H' ys)) (h.news [.cells ⟨rows eN (worR W H xs W' H' ys).1, 1, true⟩]) := by
  have F : Fc Tryd.prog f [mV 1 n c W H, mV 2 m d W' H'] (Hp 3 (m2 xs ys)) (tuV 3 (worR W H xs W' H' ys)) ((Hp 3 (m2 xs ys)).news [.cells ⟨rows eN (worR W H xs W' H' ys).1, 1, true⟩]) := by
    unfold worR
    cases h1 : wsOK W H xs W' H' ys with
    | false => exact B n c m d W H W' H' xs ys hn hm hb hb2 h1
    | true =>
      obtain ⟨a1, a2, rfl, rfl⟩ := ws_parts h1
      obtain ⟨b1, _⟩ := mOK_len a1
      obtain ⟨b2, _⟩ := mOK_len a2
      obtain rfl : n = m := by omega
      have := O n c d W H xs ys hn hm a1 a2
      simp only [if_true]
      rw [tuV, mx_len, hn]
      exact this
  exact Fc.lift2o (os := [((worR W H xs W' H' ys).1.length, rows eN (worR W H xs W' H' ys).1, 1)]) (mk := fun ss => [.agg ⟨[Value.int .i64 W, .int .i64 H] ++ ss.take 1 ++ []⟩, .agg ⟨[Value.int .i64 W', .int .i64 H'] ++ ss.drop 1 ++ []⟩]) (mkv := fun ss => .tuple ⟨[.agg ⟨[Value.int .i64 (worR W H xs W' H' ys).2.1, .int .i64 (worR W H xs W' H' ys).2.2.1] ++ ss ++ []⟩, .int .i64 (worR W H xs W' H' ys).2.2.2]⟩) F (mkM2 W H W' H') (MkV.tup (mkMq _ _ _)) (rows_no (f := eN) _) (rows_no (f := eN) _) (fun o h => by simp at h; subst h; exact rows_no (f := eN) _) hs hg hg2
theorem same_refl {W H : Int} {xs : List Int} : sameM W H W H xs xs = true := by unfold sameM; simp
/- boule/boulelaw06.RecordTurns · slots 74 · names 0:a 1:b 2:quarters 3:a 4:b 5:quarters 7:t 8:e 9:w 10:f 11:x 12:g 13:y 14:h · results [6] -/
def ir15_r0 : IC := .reg [⟨some 3, none, false, .box (.t 0)⟩,
  ⟨some 4, none, false, .box (.t 1)⟩,
  ⟨some 6, none, false, .mv (.k (.bool false))⟩] (some [2, 3, 4])
def ir15_r1 : IC := .reg [⟨some 15, none, false, .fad 2 (.t 3)⟩,
  ⟨some 16, none, false, .ldc (.t 15)⟩,
  ⟨some 17, none, false, .len (.t 16)⟩,
  ⟨some 18, none, false, .cmp .gtr (.t 17) (.k (.int .i64 3700))⟩,
  ⟨some 19, none, false, .mv (.t 18)⟩,
  ⟨some 20, some (19, false), false, .fad 2 (.t 4)⟩,
  ⟨some 21, some (19, false), false, .ldc (.t 20)⟩,
  ⟨some 22, some (19, false), false, .len (.t 21)⟩,
  ⟨some 23, some (19, false), false, .cmp .gtr (.t 22) (.k (.int .i64 3700))⟩,
  ⟨some 24, none, false, .pick (.t 19) (.k (.bool true)) (.t 23)⟩] (some [2, 3, 4, 24])
def ir15_r2 : IC := .reg [⟨some 25, none, false, .call (.f 19) []⟩,
  ⟨some 6, none, false, .mv (.t 25)⟩] (some [6])
def ir15_1 : IC := .seq ir15_r2 .ret
def ir15_2 : IC := .cond (.t 24) ir15_1 .skip
def ir15_3 : IC := .seq ir15_r1 ir15_2
def ir15_r3 : IC := .reg [⟨some 27, none, false, .lda 3 (.t 3)⟩,
  ⟨some 28, none, false, .call (.f 35) [(.t 27)]⟩,
  ⟨some 29, none, false, .mv (.t 2)⟩,
  ⟨some 30, none, false, .call (.f 56) [(.t 28), (.t 29)]⟩,
  ⟨some 26, none, false, .mv (.t 30)⟩,
  ⟨some 31, none, false, .ext (.t 26) 0⟩,
  ⟨some 32, none, false, .ext (.t 26) 1⟩,
  ⟨some 7, none, false, .alloc [(.int .i64 0), (.int .i64 0), (.slice none 0 0)]⟩,
  ⟨none, none, false, .st 3 (.t 7) (.t 31)⟩,
  ⟨some 8, none, false, .mv (.t 32)⟩] (some [2, 3, 4, 7, 8])
def ir15_r4 : IC := .draw [(⟨some 34, none, false, .lda 3 (.t 3)⟩, false, 0, 1),
  (⟨some 35, none, false, .call (.f 35) [(.t 34)]⟩, false, 1, 1),
  (⟨some 36, none, false, .lda 3 (.t 4)⟩, false, 0, 2),
  (⟨some 37, none, false, .call (.f 35) [(.t 36)]⟩, false, 7, 1),
  (⟨some 38, none, false, .call (.f 57) [(.t 35), (.t 37)]⟩, false, 15, 1),
  (⟨some 33, none, false, .mv (.t 38)⟩, false, 31, 0),
  (⟨some 39, none, false, .ext (.t 33) 0⟩, false, 63, 0),
  (⟨some 40, none, false, .ext (.t 33) 1⟩, false, 63, 0),
  (⟨some 9, none, false, .alloc [(.int .i64 0), (.int .i64 0), (.slice none 0 0)]⟩, false, 0, 16),
  (⟨none, none, false, .st 3 (.t 9) (.t 39)⟩, true, 383, 0),
  (⟨some 10, none, false, .mv (.t 40)⟩, false, 1023, 0)] (some [2, 3, 4, 7, 8, 9, 10])
def ir15_r5 : IC := .reg [⟨some 42, none, false, .lda 3 (.t 3)⟩,
  ⟨some 43, none, false, .mv (.t 2)⟩,
  ⟨some 44, none, false, .call (.f 58) [(.t 42), (.t 43)]⟩,
  ⟨some 41, none, false, .mv (.t 44)⟩,
  ⟨some 45, none, false, .ext (.t 41) 0⟩,
  ⟨some 46, none, false, .ext (.t 41) 1⟩,
  ⟨some 11, none, false, .alloc [(.int .i64 0), (.int .i64 0), (.slice none 0 0)]⟩,
  ⟨none, none, false, .st 3 (.t 11) (.t 45)⟩,
  ⟨some 12, none, false, .mv (.t 46)⟩] (some [3, 4, 7, 8, 9, 10, 11, 12])
def ir15_r6 : IC := .reg [⟨some 48, none, false, .lda 3 (.t 3)⟩,
  ⟨some 49, none, false, .lda 3 (.t 4)⟩,
  ⟨some 50, none, false, .call (.f 59) [(.t 48), (.t 49)]⟩,
  ⟨some 47, none, false, .mv (.t 50)⟩,
  ⟨some 51, none, false, .ext (.t 47) 0⟩,
  ⟨some 52, none, false, .ext (.t 47) 1⟩,
  ⟨some 13, none, false, .alloc [(.int .i64 0), (.int .i64 0), (.slice none 0 0)]⟩,
  ⟨none, none, false, .st 3 (.t 13) (.t 51)⟩,
  ⟨some 14, none, false, .mv (.t 52)⟩] (some [7, 8, 9, 10, 11, 12, 13, 14])
def ir15_r7 : IC := .reg [⟨some 53, none, false, .lda 3 (.t 7)⟩,
  ⟨some 54, none, false, .lda 3 (.t 11)⟩,
  ⟨some 55, none, false, .call (.f 40) [(.t 53), (.t 54)]⟩,
  ⟨some 56, none, false, .mv (.t 55)⟩,
  ⟨some 57, some (56, true), false, .lda 3 (.t 9)⟩,
  ⟨some 58, some (56, true), false, .lda 3 (.t 13)⟩,
  ⟨some 59, some (56, true), false, .call (.f 40) [(.t 57), (.t 58)]⟩,
  ⟨some 60, none, false, .pick (.t 56) (.t 59) (.k (.bool false))⟩,
  ⟨some 61, none, false, .mv (.t 60)⟩,
  ⟨some 62, some (61, true), false, .mv (.t 8)⟩,
  ⟨some 63, some (61, true), false, .mv (.t 12)⟩,
  ⟨some 64, some (61, true), false, .cmp .eql (.t 62) (.t 63)⟩,
  ⟨some 65, none, false, .pick (.t 61) (.t 64) (.k (.bool false))⟩,
  ⟨some 66, none, false, .mv (.t 65)⟩,
  ⟨some 67, some (66, true), false, .mv (.t 10)⟩,
  ⟨some 68, some (66, true), false, .mv (.t 14)⟩,
  ⟨some 69, some (66, true), false, .cmp .eql (.t 67) (.t 68)⟩,
  ⟨some 70, none, false, .pick (.t 66) (.t 69) (.k (.bool false))⟩,
  ⟨some 71, none, false, .mv (.t 70)⟩,
  ⟨some 72, some (71, true), false, .call (.f 19) []⟩,
  ⟨some 73, none, false, .pick (.t 71) (.t 72) (.k (.bool false))⟩,
  ⟨some 6, none, false, .mv (.t 73)⟩] (some [6])
def ir15_4 : IC := .seq ir15_r7 .ret
def ir15_5 : IC := .seq ir15_r6 ir15_4
def ir15_6 : IC := .seq ir15_r5 ir15_5
def ir15_7 : IC := .seq ir15_r4 ir15_6
def ir15_8 : IC := .seq ir15_r3 ir15_7
def ir15_9 : IC := .seq ir15_3 ir15_8
def ir15_10 : IC := .seq ir15_r0 ir15_9
def ir15 : IC := ir15_10
theorem fn15 : FnIs Tryd.prog 15 ir15 74 [.tmp 6] := ⟨Tryd.f15, Tryd.f15.body.getD .skip, Tryd.func15, by kernel_rfl, by kernel_rfl, by kernel_rfl, by kernel_rfl⟩
theorem turns_c (n c m d : Nat) (W H W' H' q : Int) (xs ys : List Int) (hn : xs.length = n) (hm : ys.length = m) :
    Fc Tryd.prog 15 [mV 1 n c W H, mV 2 m d W' H', .int .i64 q] (Hp 3 (m2 xs ys)) (.bool true) (Hp 3 (m2 xs ys)) := by
  refine Fc.intro0 fn15 (by simp) rfl rfl ?_; simp only [argF]
  refine ITri.seq ?_
  refine ITri.reg pok ?_; simp -implicitDefEqProofs (disch := first | decide | exact of_eq_true (eq_true rfl) | omega | assumption) only [ ↓vcD, vcE, ↓vcG, vcF, evs, evP, evB, intsOf, fillC, Value.cells, pt, Value.oneCell', reduceIte, reduceCtorEq, Nat.reduceEqDiff, Nat.reduceAdd, Nat.reduceMul, Nat.reduceLT, Nat.reduceBEq, Nat.reduceLeDiff, Nat.reduceSub] -- r0 law.go:221
  refine ITri.seq ?_
  refine ITri.seq ?_
  by_cases g1 : 3700 < (n : Int)
  · refine ITri.reg pok ?_; simp -implicitDefEqProofs (disch := first | decide | exact of_eq_true (eq_true rfl) | omega | assumption) only [g1, decide_true,  ↓vcD, vcE, ↓vcG, vcF, evs, evP, evB, intsOf, fillC, Value.cells, pt, Value.oneCell', reduceIte, reduceCtorEq, Nat.reduceEqDiff, Nat.reduceAdd, Nat.reduceMul, Nat.reduceLT, Nat.reduceBEq, Nat.reduceLeDiff, Nat.reduceSub]
    refine ITri.cond (v := true) rfl (fun _ => ?_) (fun h => by cases h)
    refine ITri.seq ?_
    refine ITri.reg pok ?_; simp -implicitDefEqProofs (disch := first | decide | exact of_eq_true (eq_true rfl) | omega | assumption) only [ ↓vcD, vcE, ↓vcG, vcF, evs, evP, evB, intsOf, fillC, Value.cells, pt, Value.oneCell', reduceIte, reduceCtorEq, Nat.reduceEqDiff, Nat.reduceAdd, Nat.reduceMul, Nat.reduceLT, Nat.reduceBEq, Nat.reduceLeDiff, Nat.reduceSub] -- r2
    refine ⟨_, _, knownT, ?_⟩
    try simp -implicitDefEqProofs (disch := first | decide | exact of_eq_true (eq_true rfl) | omega | assumption) only [ ↓vcD, vcE, ↓vcG, vcF, evs, evP, evB, intsOf, fillC, Value.cells, pt, Value.oneCell', reduceIte, reduceCtorEq, Nat.reduceEqDiff, Nat.reduceAdd, Nat.reduceMul, Nat.reduceLT, Nat.reduceBEq, Nat.reduceLeDiff, Nat.reduceSub]
    refine ITri.ret ?_; exact EndR.plain (by simp) (by rfl) (by rfl) (by rfl)
  by_cases g2 : 3700 < (m : Int)
  · refine ITri.reg pok ?_; simp -implicitDefEqProofs (disch := first | decide | exact of_eq_true (eq_true rfl) | omega | assumption) only [g1, g2, decide_true, decide_false,  ↓vcD, vcE, ↓vcG, vcF, evs, evP, evB, intsOf, fillC, Value.cells, pt, Value.oneCell', reduceIte, reduceCtorEq, Nat.reduceEqDiff, Nat.reduceAdd, Nat.reduceMul, Nat.reduceLT, Nat.reduceBEq, Nat.reduceLeDiff, Nat.reduceSub]
    refine ITri.cond (v := true) rfl (fun _ => ?_) (fun h => by cases h)
    refine ITri.seq ?_
    refine ITri.reg pok ?_; simp -implicitDefEqProofs (disch := first | decide | exact of_eq_true (eq_true rfl) | omega | assumption) only [ ↓vcD, vcE, ↓vcG, vcF, evs, evP, evB, intsOf, fillC, Value.cells, pt, Value.oneCell', reduceIte, reduceCtorEq, Nat.reduceEqDiff, Nat.reduceAdd, Nat.reduceMul, Nat.reduceLT, Nat.reduceBEq, Nat.reduceLeDiff, Nat.reduceSub] -- r2
    refine ⟨_, _, knownT, ?_⟩
    try simp -implicitDefEqProofs (disch := first | decide | exact of_eq_true (eq_true rfl) | omega | assumption) only [ ↓vcD, vcE, ↓vcG, vcF, evs, evP, evB, intsOf, fillC, Value.cells, pt, Value.oneCell', reduceIte, reduceCtorEq, Nat.reduceEqDiff, Nat.reduceAdd, Nat.reduceMul, Nat.reduceLT, Nat.reduceBEq, Nat.reduceLeDiff, Nat.reduceSub]
    refine ITri.ret ?_; exact EndR.plain (by simp) (by rfl) (by rfl) (by rfl)
  refine ITri.reg pok ?_; simp -implicitDefEqProofs (disch := first | decide | exact of_eq_true (eq_true rfl) | omega | assumption) only [g1, g2, decide_false,  ↓vcD, vcE, ↓vcG, vcF, evs, evP, evB, intsOf, fillC, Value.cells, pt, Value.oneCell', reduceIte, reduceCtorEq, Nat.reduceEqDiff, Nat.reduceAdd, Nat.reduceMul, Nat.reduceLT, Nat.reduceBEq, Nat.reduceLeDiff, Nat.reduceSub]
  refine ITri.cond (v := false) rfl (fun h => by cases h) (fun _ => ?_); refine ITri.skip ?_; simp only [SeqQ_normal, BlkQ_normal]
  refine ITri.seq ?_
  refine ITri.reg pok ?_; simp -implicitDefEqProofs (disch := first | decide | exact of_eq_true (eq_true rfl) | omega | assumption) only [ ↓vcD, vcE, ↓vcG, vcF, evs, evP, evB, intsOf, fillC, Value.cells, pt, Value.oneCell', reduceIte, reduceCtorEq, Nat.reduceEqDiff, Nat.reduceAdd, Nat.reduceMul, Nat.reduceLT, Nat.reduceBEq, Nat.reduceLeDiff, Nat.reduceSub] -- r3 law.go:225 CALLS .call F35 [%27] .call F56 [%28, %29]
  refine ⟨_, _, own_f hn (by omega) (sees0 rfl (of_decide_eq_true rfl)) (get_hq rfl rfl), ?_⟩
  simp -implicitDefEqProofs (disch := first | decide | exact of_eq_true (eq_true rfl) | omega | assumption) only [news_c, news_n,  ↓vcD, vcE, ↓vcG, vcF, evs, evP, evB, intsOf, fillC, Value.cells, pt, Value.oneCell', reduceIte, reduceCtorEq, Nat.reduceEqDiff, Nat.reduceAdd, Nat.reduceMul, Nat.reduceLT, Nat.reduceBEq, Nat.reduceLeDiff, Nat.reduceSub]
  refine ⟨_, _, turn_f q hn (by omega) (sees0 rfl (of_decide_eq_true rfl)) (get_hq rfl rfl), ?_⟩
  have htl := len_turn (W := W) (H := H) (xs := xs) (q := q)
  simp -implicitDefEqProofs (disch := first | decide | exact of_eq_true (eq_true rfl) | omega | assumption) only [news_c, news_n,  ↓vcD, vcE, ↓vcG, vcF, evs, evP, evB, intsOf, fillC, Value.cells, pt, Value.oneCell', reduceIte, reduceCtorEq, Nat.reduceEqDiff, Nat.reduceAdd, Nat.reduceMul, Nat.reduceLT, Nat.reduceBEq, Nat.reduceLeDiff, Nat.reduceSub]
  refine ITri.seq ?_
  refine ITri.draw pok ?_; simp -implicitDefEqProofs (disch := first | decide | exact of_eq_true (eq_true rfl) | omega | assumption) only [ ↓vcD, vcE, ↓vcG, vcF, evs, evP, evB, intsOf, fillC, Value.cells, pt, Value.oneCell', reduceIte, reduceCtorEq, Nat.reduceEqDiff, Nat.reduceAdd, Nat.reduceMul, Nat.reduceLT, Nat.reduceBEq, Nat.reduceLeDiff, Nat.reduceSub] -- r4 law.go:226 CALLS .call F35 [%34] .call F35 [%36] .call F57 [%35, %37]
  refine ⟨_, _, own_f hn (by omega) (sees0 rfl (of_decide_eq_true rfl)) (get_hq rfl rfl), ?_⟩
  simp -implicitDefEqProofs (disch := first | decide | exact of_eq_true (eq_true rfl) | omega | assumption) only [news_c, news_n,  ↓vcD, vcE, ↓vcG, vcF, evs, evP, evB, intsOf, fillC, Value.cells, pt, Value.oneCell', reduceIte, reduceCtorEq, Nat.reduceEqDiff, Nat.reduceAdd, Nat.reduceMul, Nat.reduceLT, Nat.reduceBEq, Nat.reduceLeDiff, Nat.reduceSub]
  refine ⟨_, _, own_f hm (by omega) (sees0 rfl (of_decide_eq_true rfl)) (get_hq rfl rfl), ?_⟩
  simp -implicitDefEqProofs (disch := first | decide | exact of_eq_true (eq_true rfl) | omega | assumption) only [news_c, news_n,  ↓vcD, vcE, ↓vcG, vcF, evs, evP, evB, intsOf, fillC, Value.cells, pt, Value.oneCell', reduceIte, reduceCtorEq, Nat.reduceEqDiff, Nat.reduceAdd, Nat.reduceMul, Nat.reduceLT, Nat.reduceBEq, Nat.reduceLeDiff, Nat.reduceSub]
  refine ⟨_, _, worst_fF worst_bad worst_ok hn hm (by omega) (by omega) (sees0 rfl (of_decide_eq_true rfl)) (get_hq rfl rfl) (get_hq rfl rfl), ?_⟩
  have hwl := len_wor (W := W) (H := H) (W' := W') (H' := H') (xs := xs) (ys := ys)
  simp -implicitDefEqProofs (disch := first | decide | exact of_eq_true (eq_true rfl) | omega | assumption) only [news_c, news_n,  ↓vcD, vcE, ↓vcG, vcF, evs, evP, evB, intsOf, fillC, Value.cells, pt, Value.oneCell', reduceIte, reduceCtorEq, Nat.reduceEqDiff, Nat.reduceAdd, Nat.reduceMul, Nat.reduceLT, Nat.reduceBEq, Nat.reduceLeDiff, Nat.reduceSub]
  refine ITri.seq ?_
  refine ITri.reg pok ?_; simp -implicitDefEqProofs (disch := first | decide | exact of_eq_true (eq_true rfl) | omega | assumption) only [ ↓vcD, vcE, ↓vcG, vcF, evs, evP, evB, intsOf, fillC, Value.cells, pt, Value.oneCell', reduceIte, reduceCtorEq, Nat.reduceEqDiff, Nat.reduceAdd, Nat.reduceMul, Nat.reduceLT, Nat.reduceBEq, Nat.reduceLeDiff, Nat.reduceSub] -- r5 law.go:227 CALLS .call F58 [%42, %43]
  by_cases hq : mOK W H xs = true ∧ q = 0
  · obtain ⟨hq1, rfl⟩ := hq
    have ht := turnR_0 hq1
    rw [ht] at *
    refine ⟨_, _, rturn_f0 hn hq1 (sees0 rfl (of_decide_eq_true rfl)) (get_hq rfl rfl), ?_⟩
    simp -implicitDefEqProofs (disch := first | decide | exact of_eq_true (eq_true rfl) | omega | assumption) only [hn,  ↓vcD, vcE, ↓vcG, vcF, evs, evP, evB, intsOf, fillC, Value.cells, pt, Value.oneCell', reduceIte, reduceCtorEq, Nat.reduceEqDiff, Nat.reduceAdd, Nat.reduceMul, Nat.reduceLT, Nat.reduceBEq, Nat.reduceLeDiff, Nat.reduceSub]
    refine ITri.seq ?_
    refine ITri.reg pok ?_; simp -implicitDefEqProofs (disch := first | decide | exact of_eq_true (eq_true rfl) | omega | assumption) only [ ↓vcD, vcE, ↓vcG, vcF, evs, evP, evB, intsOf, fillC, Value.cells, pt, Value.oneCell', reduceIte, reduceCtorEq, Nat.reduceEqDiff, Nat.reduceAdd, Nat.reduceMul, Nat.reduceLT, Nat.reduceBEq, Nat.reduceLeDiff, Nat.reduceSub] -- r6 law.go:228 CALLS .call F59 [%48, %49]
    refine ⟨_, _, worst_fF rworst_bad rworst_ok hn hm (by omega) (by omega) (sees0 rfl (of_decide_eq_true rfl)) (get_hq rfl rfl) (get_hq rfl rfl), ?_⟩
    simp -implicitDefEqProofs (disch := first | decide | exact of_eq_true (eq_true rfl) | omega | assumption) only [news_c, news_n,  ↓vcD, vcE, ↓vcG, vcF, evs, evP, evB, intsOf, fillC, Value.cells, pt, Value.oneCell', reduceIte, reduceCtorEq, Nat.reduceEqDiff, Nat.reduceAdd, Nat.reduceMul, Nat.reduceLT, Nat.reduceBEq, Nat.reduceLeDiff, Nat.reduceSub]
    refine ITri.seq ?_
    refine ITri.reg pok ?_; simp -implicitDefEqProofs (disch := first | decide | exact of_eq_true (eq_true rfl) | omega | assumption) only [ ↓vcD, vcE, ↓vcG, vcF, evs, evP, evB, intsOf, fillC, Value.cells, pt, Value.oneCell', reduceIte, reduceCtorEq, Nat.reduceEqDiff, Nat.reduceAdd, Nat.reduceMul, Nat.reduceLT, Nat.reduceBEq, Nat.reduceLeDiff, Nat.reduceSub] -- r7 law.go:229 CALLS .call F40 [%53, %54] .call F40 [%57, %58] .call F19 []
    refine ⟨_, _, same_f hn hn (by omega) (by omega) (sees0 rfl (of_decide_eq_true rfl)) (get_hq rfl rfl) (get_hq rfl rfl), ?_⟩
    rw [same_refl]
    try simp -implicitDefEqProofs (disch := first | decide | exact of_eq_true (eq_true rfl) | omega | assumption) only [ ↓vcD, vcE, ↓vcG, vcF, evs, evP, evB, intsOf, fillC, Value.cells, pt, Value.oneCell', reduceIte, reduceCtorEq, Nat.reduceEqDiff, Nat.reduceAdd, Nat.reduceMul, Nat.reduceLT, Nat.reduceBEq, Nat.reduceLeDiff, Nat.reduceSub]
    refine ⟨_, _, same_f rfl rfl hwl hwl (sees0 rfl (of_decide_eq_true rfl)) (get_hq rfl rfl) (get_hq rfl rfl), ?_⟩
    rw [same_refl]
    simp -implicitDefEqProofs (disch := first | decide | exact of_eq_true (eq_true rfl) | omega | assumption) only [decide_true,  ↓vcD, vcE, ↓vcG, vcF, evs, evP, evB, intsOf, fillC, Value.cells, pt, Value.oneCell', reduceIte, reduceCtorEq, Nat.reduceEqDiff, Nat.reduceAdd, Nat.reduceMul, Nat.reduceLT, Nat.reduceBEq, Nat.reduceLeDiff, Nat.reduceSub]
    refine ⟨_, _, knownT, ?_⟩
    try simp -implicitDefEqProofs (disch := first | decide | exact of_eq_true (eq_true rfl) | omega | assumption) only [ ↓vcD, vcE, ↓vcG, vcF, evs, evP, evB, intsOf, fillC, Value.cells, pt, Value.oneCell', reduceIte, reduceCtorEq, Nat.reduceEqDiff, Nat.reduceAdd, Nat.reduceMul, Nat.reduceLT, Nat.reduceBEq, Nat.reduceLeDiff, Nat.reduceSub]
    refine ITri.ret ?_; exact EndR.plain (by simp) (by rfl) (by rfl) (by rfl)
  · refine ⟨_, _, rturn_f q hn (by omega) (fun h e => hq ⟨h, e⟩) (sees0 rfl (of_decide_eq_true rfl)) (get_hq rfl rfl), ?_⟩
    simp -implicitDefEqProofs (disch := first | decide | exact of_eq_true (eq_true rfl) | omega | assumption) only [news_c, news_n,  ↓vcD, vcE, ↓vcG, vcF, evs, evP, evB, intsOf, fillC, Value.cells, pt, Value.oneCell', reduceIte, reduceCtorEq, Nat.reduceEqDiff, Nat.reduceAdd, Nat.reduceMul, Nat.reduceLT, Nat.reduceBEq, Nat.reduceLeDiff, Nat.reduceSub]
    refine ITri.seq ?_
    refine ITri.reg pok ?_; simp -implicitDefEqProofs (disch := first | decide | exact of_eq_true (eq_true rfl) | omega | assumption) only [ ↓vcD, vcE, ↓vcG, vcF, evs, evP, evB, intsOf, fillC, Value.cells, pt, Value.oneCell', reduceIte, reduceCtorEq, Nat.reduceEqDiff, Nat.reduceAdd, Nat.reduceMul, Nat.reduceLT, Nat.reduceBEq, Nat.reduceLeDiff, Nat.reduceSub] -- r6 law.go:228 CALLS .call F59 [%48, %49]
    refine ⟨_, _, worst_fF rworst_bad rworst_ok hn hm (by omega) (by omega) (sees0 rfl (of_decide_eq_true rfl)) (get_hq rfl rfl) (get_hq rfl rfl), ?_⟩
    simp -implicitDefEqProofs (disch := first | decide | exact of_eq_true (eq_true rfl) | omega | assumption) only [news_c, news_n,  ↓vcD, vcE, ↓vcG, vcF, evs, evP, evB, intsOf, fillC, Value.cells, pt, Value.oneCell', reduceIte, reduceCtorEq, Nat.reduceEqDiff, Nat.reduceAdd, Nat.reduceMul, Nat.reduceLT, Nat.reduceBEq, Nat.reduceLeDiff, Nat.reduceSub]
    refine ITri.seq ?_
    refine ITri.reg pok ?_; simp -implicitDefEqProofs (disch := first | decide | exact of_eq_true (eq_true rfl) | omega | assumption) only [ ↓vcD, vcE, ↓vcG, vcF, evs, evP, evB, intsOf, fillC, Value.cells, pt, Value.oneCell', reduceIte, reduceCtorEq, Nat.reduceEqDiff, Nat.reduceAdd, Nat.reduceMul, Nat.reduceLT, Nat.reduceBEq, Nat.reduceLeDiff, Nat.reduceSub] -- r7 law.go:229 CALLS .call F40 [%53, %54] .call F40 [%57, %58] .call F19 []
    refine ⟨_, _, same_f rfl rfl htl htl (sees0 rfl (of_decide_eq_true rfl)) (get_hq rfl rfl) (get_hq rfl rfl), ?_⟩
    rw [same_refl]
    try simp -implicitDefEqProofs (disch := first | decide | exact of_eq_true (eq_true rfl) | omega | assumption) only [ ↓vcD, vcE, ↓vcG, vcF, evs, evP, evB, intsOf, fillC, Value.cells, pt, Value.oneCell', reduceIte, reduceCtorEq, Nat.reduceEqDiff, Nat.reduceAdd, Nat.reduceMul, Nat.reduceLT, Nat.reduceBEq, Nat.reduceLeDiff, Nat.reduceSub]
    refine ⟨_, _, same_f rfl rfl hwl hwl (sees0 rfl (of_decide_eq_true rfl)) (get_hq rfl rfl) (get_hq rfl rfl), ?_⟩
    rw [same_refl]
    simp -implicitDefEqProofs (disch := first | decide | exact of_eq_true (eq_true rfl) | omega | assumption) only [decide_true,  ↓vcD, vcE, ↓vcG, vcF, evs, evP, evB, intsOf, fillC, Value.cells, pt, Value.oneCell', reduceIte, reduceCtorEq, Nat.reduceEqDiff, Nat.reduceAdd, Nat.reduceMul, Nat.reduceLT, Nat.reduceBEq, Nat.reduceLeDiff, Nat.reduceSub]
    refine ⟨_, _, knownT, ?_⟩
    try simp -implicitDefEqProofs (disch := first | decide | exact of_eq_true (eq_true rfl) | omega | assumption) only [ ↓vcD, vcE, ↓vcG, vcF, evs, evP, evB, intsOf, fillC, Value.cells, pt, Value.oneCell', reduceIte, reduceCtorEq, Nat.reduceEqDiff, Nat.reduceAdd, Nat.reduceMul, Nat.reduceLT, Nat.reduceBEq, Nat.reduceLeDiff, Nat.reduceSub]
    refine ITri.ret ?_; exact EndR.plain (by simp) (by rfl) (by rfl) (by rfl)
end Go.Proofs.YtgjokhodccacoaaDoor
