import Derived.Test.YtgjokhodccacoaaDoorSRecW7
import Derived.Test.YtgjokhodccacoaaDoorSRecP3
set_option linter.unusedSimpArgs false
set_option linter.unusedVariables false
namespace Go.Proofs.YtgjokhodccacoaaDoor
open Go.RowKit Go.Vm
set_option maxRecDepth 100000
def ir64_r0 : IC := .reg [⟨some 4, none, false, .mv (.k (.slice none 0 0))⟩] (some [0, 1])
def ir64_r1 : IC := .reg [⟨some 7, none, false, .mv (.t 0)⟩,
 ⟨some 8, none, false, .conv .u8 (.t 7)⟩,
 ⟨some 9, none, false, .bsl 1 1 [(.int .u8 0)] [(0, (.t 8))]⟩,
 ⟨some 10, none, false, .mv (.t 1)⟩,
 ⟨some 11, none, false, .len (.t 10)⟩,
 ⟨some 12, none, false, .call (.f 92) [(.t 11)]⟩,
 ⟨some 13, none, false, .app 1 1 (.t 9) (.t 12)⟩,
 ⟨some 14, none, false, .mv (.t 1)⟩,
 ⟨some 15, none, false, .app 1 1 (.t 13) (.t 14)⟩,
 ⟨some 5, none, false, .mv (.t 15)⟩] (some [5])
def ir64_r2 : IC := .reg [⟨some 16, none, false, .mv (.t 5)⟩,
 ⟨some 17, none, false, .call (.f 24) [(.t 16)]⟩,
 ⟨some 6, none, false, .mv (.t 17)⟩] (some [5, 6])
def ir64_r3 : IC := .reg [⟨some 18, none, false, .mv (.t 5)⟩,
 ⟨some 19, none, false, .mv (.t 6)⟩,
 ⟨some 20, none, false, .div .quo (.t 19) (.k (.int .i64 256))⟩,
 ⟨some 21, none, false, .conv .u8 (.t 20)⟩,
 ⟨some 22, none, false, .mv (.t 6)⟩,
 ⟨some 23, none, false, .div .rem (.t 22) (.k (.int .i64 256))⟩,
 ⟨some 24, none, false, .conv .u8 (.t 23)⟩,
 ⟨some 25, none, false, .bsl 1 2 [(.int .u8 0), (.int .u8 0)] [(0, (.t 21)), (1, (.t 24))]⟩,
 ⟨some 26, none, false, .app 1 1 (.t 18) (.t 25)⟩,
 ⟨some 4, none, false, .mv (.t 26)⟩] (some [4])
def ir64_1 : IC := .seq ir64_r3 .ret
def ir64_2 : IC := .seq ir64_r2 ir64_1
def ir64_3 : IC := .seq ir64_r1 ir64_2
def ir64_4 : IC := .seq ir64_r0 ir64_3
def ir64 : IC := ir64_4
theorem fn64 : FnIs Tryd.prog 64 ir64 27 [.tmp 4] := ⟨Tryd.f64, Tryd.f64.body.getD .skip, Tryd.func64, by kernel_rfl, by kernel_rfl, by kernel_rfl, by kernel_rfl⟩
theorem rbytes_c (n c K : Nat) (xs : List Int) (hn : xs.length = n) (hB : isB xs) (hK : K ≤ 250) (hb : n ≤ 100000) :
    Fc Tryd.prog 64 [.int .i64 K, .slice (some ⟨1, 0, none⟩) n c] (Hp 2 [none, srB xs]) (sO 2 (frB K xs).length) ((Hp 2 [none, srB xs]).news [.cells ⟨rows eB (frB K xs), 1, true⟩]) := by
 obtain ⟨g1, g2⟩ := groups_len (N := n) (by omega)
 have hHl : (frH K xs).length = 1 + (groups n).length + n := by rw [frH_len, hn]
 have hcl := crc_lt (xs := frH K xs) (frH K xs).length
 have hcd : crc (frH K xs) = crcF (frH K xs) (frH K xs).length := rfl
 have hTg : takeC (rows eB (groups n)) 0 (groups n).length = some (rows eB (groups n)) := by
  rw [takeC_eq _ _ _ (by rw [rows_len]; omega), List.drop_zero, List.take_of_length_le (by rw [rows_len]; omega)]
 have hT : takeC (rows eB xs) 0 n = some (rows eB xs) := by
  rw [takeC_eq _ _ _ (by rw [rows_len]; omega), List.drop_zero, List.take_of_length_le (by rw [rows_len]; omega)]
 have g0 : (groups n).length ≠ 0 := by omega
 have hgl : (rows eB (K :: groups n)).length = 1 + (groups n).length := by rw [rows_len, List.length_cons]; omega
 have b0 : dvI .rem (crc (frH K xs) : Int) 256 = ((crc (frH K xs) % 256 : Nat) : Int) := rfl
 have b1 : dvI .quo (crc (frH K xs) : Int) 256 = ((crc (frH K xs) / 256 : Nat) : Int) := rfl
 have rest : ∀ (j : Nat) (L : List (Option AObj)), 2 ≤ j → L[j]? = some (opR (frH K xs)) → ITri Tryd.prog 27 none 2 ir64_2 [(5, sO j (frH K xs).length)] [] (Hp 2 L) (EndR Tryd.prog [.tmp 4] 2 [.cells ⟨rows eB (frB K xs), 1, true⟩] (sO 2 (frB K xs).length)) := by
  intro j L h2 hj
  have hjl := get_lt hj
  refine ITri.seq ?_
  refine ITri.reg pok ?_; simp -implicitDefEqProofs (disch := first | decide | exact of_eq_true (eq_true rfl) | omega | assumption) only [ ↓vcD, vcE, ↓vcG, vcF, evs, evP, evB, intsOf, fillC, Value.cells, pt, Value.oneCell', reduceIte, reduceCtorEq, Nat.reduceEqDiff, Nat.reduceAdd, Nat.reduceMul, Nat.reduceLT, Nat.reduceBEq, Nat.reduceLeDiff, Nat.reduceSub]
  refine ⟨_, _, rcheck_x (xs := frH K xs) (by rw [hj]; rfl) (bys_rows _) (frH_isB (by omega) hB (by omega)) rfl (by rw [hHl]; omega), ?_⟩
  try simp -implicitDefEqProofs (disch := first | decide | exact of_eq_true (eq_true rfl) | omega | assumption) only [ ↓vcD, vcE, ↓vcG, vcF, evs, evP, evB, intsOf, fillC, Value.cells, pt, Value.oneCell', reduceIte, reduceCtorEq, Nat.reduceEqDiff, Nat.reduceAdd, Nat.reduceMul, Nat.reduceLT, Nat.reduceBEq, Nat.reduceLeDiff, Nat.reduceSub]
  refine ITri.seq ?_
  refine ITri.reg pok ?_; simp -implicitDefEqProofs (disch := first | decide | exact of_eq_true (eq_true rfl) | omega | assumption) only [b0, b1,  ↓vcD, vcE, ↓vcG, vcF, evs, evP, evB, intsOf, fillC, Value.cells, pt, Value.oneCell', reduceIte, reduceCtorEq, Nat.reduceEqDiff, Nat.reduceAdd, Nat.reduceMul, Nat.reduceLT, Nat.reduceBEq, Nat.reduceLeDiff, Nat.reduceSub]
  rw [appK_o rfl (by rw [low_get hj]; rfl) (by rw [rows_len]) (by decide)]
  simp -implicitDefEqProofs (disch := first | decide | exact of_eq_true (eq_true rfl) | omega | assumption) only [apd_get, apd_get0, apd_set0, apd_set, List.length_append, List.append_assoc, Nat.add_assoc, h2,  ↓vcD, vcE, ↓vcG, vcF, evs, evP, evB, intsOf, fillC, Value.cells, pt, Value.oneCell', reduceIte, reduceCtorEq, Nat.reduceEqDiff, Nat.reduceAdd, Nat.reduceMul, Nat.reduceLT, Nat.reduceBEq, Nat.reduceLeDiff, Nat.reduceSub]
  refine ITri.ret ?_
  have e3 : rows eB (frH K xs) ++ [Value.int .u8 ((crc (frH K xs) / 256 : Nat) : Int), .int .u8 ((crc (frH K xs) % 256 : Nat) : Int)] = rows eB (frB K xs) := by unfold frB; rw [rows_append]; rfl
  rw [e3, ← frB_len]
  exact end_mk (k := L.length + 1) (mk := fun s => s) mvI (by omega) (rows_no (f := eB) _) (by rw [List.getElem?_set_ne (by omega), List.getElem?_append_right (by omega), Nat.add_sub_cancel_left]; rfl) (resF_tmp rfl resF_nil) rfl
 refine Fc.introR fn64 (by simp) rfl rfl ?_; simp only [argF]
 refine ITri.seq ?_
 refine ITri.reg pok ?_; simp -implicitDefEqProofs (disch := first | decide | exact of_eq_true (eq_true rfl) | omega | assumption) only [ ↓vcD, vcE, ↓vcG, vcF, evs, evP, evB, intsOf, fillC, Value.cells, pt, Value.oneCell', reduceIte, reduceCtorEq, Nat.reduceEqDiff, Nat.reduceAdd, Nat.reduceMul, Nat.reduceLT, Nat.reduceBEq, Nat.reduceLeDiff, Nat.reduceSub]
 refine ITri.seq ?_
 refine ITri.reg pok ?_; simp -implicitDefEqProofs (disch := first | decide | exact of_eq_true (eq_true rfl) | omega | assumption) only [ ↓vcD, vcE, ↓vcG, vcF, evs, evP, evB, intsOf, fillC, Value.cells, pt, Value.oneCell', reduceIte, reduceCtorEq, Nat.reduceEqDiff, Nat.reduceAdd, Nat.reduceMul, Nat.reduceLT, Nat.reduceBEq, Nat.reduceLeDiff, Nat.reduceSub]
 refine ⟨_, _, groups_f (by omega) (sees0 rfl (of_decide_eq_true rfl)), ?_⟩
 simp -implicitDefEqProofs (disch := first | decide | exact of_eq_true (eq_true rfl) | omega | assumption) only [news_c, news_n,  ↓vcD, vcE, ↓vcG, vcF, evs, evP, evB, intsOf, fillC, Value.cells, pt, Value.oneCell', reduceIte, reduceCtorEq, Nat.reduceEqDiff, Nat.reduceAdd, Nat.reduceMul, Nat.reduceLT, Nat.reduceBEq, Nat.reduceLeDiff, Nat.reduceSub]
 rw [appK_g rfl rfl rfl (by omega) (by unfold openB; omega) g0]
 simp -implicitDefEqProofs (disch := first | decide | exact of_eq_true (eq_true rfl) | omega | assumption) only [hTg, rows_allT,  ↓vcD, vcE, ↓vcG, vcF, evs, evP, evB, intsOf, fillC, Value.cells, pt, Value.oneCell', reduceIte, reduceCtorEq, Nat.reduceEqDiff, Nat.reduceAdd, Nat.reduceMul, Nat.reduceLT, Nat.reduceBEq, Nat.reduceLeDiff, Nat.reduceSub]
 have hs1 : Value.int .u8 (K : Int) :: rows eB (groups n) = rows eB ((K : Int) :: groups n) := rfl
 rw [hs1]
 by_cases hn0 : n = 0
 ·subst hn0
  obtain rfl : xs = [] := List.eq_nil_of_length_eq_zero hn
  rw [appK_zo]
  have e1 : frH K [] = (K : Int) :: groups 0 := by unfold frH; rw [List.length_nil, List.append_nil]
  have e2 : 1 + (groups 0).length = (frH K []).length := by rw [e1, List.length_cons]; omega
  rw [e2]
  exact rest 4 _ (by decide) (by rw [e1]; rfl)
 ·rw [appK_o rfl rfl (by rw [hgl]; omega) hn0]
  have e1 : frH K xs = ((K : Int) :: groups n) ++ xs := by unfold frH; rw [hn]; rfl
  have e2 : 1 + (groups n).length + n = (frH K xs).length := by rw [hHl]
  simp -implicitDefEqProofs (disch := first | decide | exact of_eq_true (eq_true rfl) | omega | assumption) only [hT, rows_allT,  ↓vcD, vcE, ↓vcG, vcF, evs, evP, evB, intsOf, fillC, Value.cells, pt, Value.oneCell', reduceIte, reduceCtorEq, Nat.reduceEqDiff, Nat.reduceAdd, Nat.reduceMul, Nat.reduceLT, Nat.reduceBEq, Nat.reduceLeDiff, Nat.reduceSub]
  rw [e2, ← rows_append, ← e1]
  exact rest 5 _ (by decide) rfl
theorem rbytes_f {n c K sz k : Nat} {op : Bool} {xs : List Int} {h : AH} (hn : xs.length = n) (hB : isB xs) (hK : K ≤ 250) (hb : n ≤ 100000) (hs : h.sees 0 = true) (hg : h.get k = some (.cells ⟨rows eB xs, sz, op⟩)) :
    Fc Tryd.prog 64 [.int .i64 K, .slice (some ⟨k, 0, none⟩) n c] h (sO h.next (frB K xs).length) (h.news [.cells ⟨rows eB (frB K xs), 1, true⟩]) :=
 Fc.lift1o (os := [((frB K xs).length, rows eB (frB K xs), 1)]) (mk := fun ss => [Value.int .i64 K] ++ ss ++ []) (mkv := fun ss => ss.headD undef) (rbytes_c n c K xs hn hB hK hb) (MkL.mid rfl rfl) MkV.one (rows_no (f := eB) _) (fun o h => by simp at h; subst h; exact rows_no (f := eB) _) hs hg
end Go.Proofs.YtgjokhodccacoaaDoor
