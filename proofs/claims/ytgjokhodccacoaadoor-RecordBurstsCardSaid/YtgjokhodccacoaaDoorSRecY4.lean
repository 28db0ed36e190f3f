import Derived.Test.YtgjokhodccacoaaDoorSRecY3
import Derived.Laws.BytesArg
set_option linter.unusedSimpArgs false
set_option linter.unusedVariables false
namespace Go.Vm
open Go Go.RowKit
def strL (l : List Int) : ByteArray := l.foldl (fun r n => r.push (UInt8.ofNat n.toNat)) ByteArray.empty
theorem aStr_strL (l : List Int) : aStr l = .string (strL l) := rfl
theorem strL_toList (l : List Int) : (strL l).toList = l.map fun n => UInt8.ofNat n.toNat := by
 unfold strL
 rw [foldl_push_bytes, ByteArray.toList_eq]
 simp
theorem bytes_inj : ∀ {xs ys : List Int}, (∀ x ∈ xs, 0 ≤ x ∧ x ≤ 255) → (∀ x ∈ ys, 0 ≤ x ∧ x ≤ 255) → (xs.map fun n => UInt8.ofNat n.toNat) = (ys.map fun n => UInt8.ofNat n.toNat) → xs = ys
 | [], [], _, _, _ => rfl
 | [], _ :: _, _, _, h => by simp at h
 | _ :: _, [], _, _, h => by simp at h
 | x :: xs, y :: ys, hx, hy, h => by
  simp only [List.map_cons, List.cons.injEq] at h
  have e := congrArg UInt8.toNat h.1
  have b1 := hx x (by simp)
  have b2 := hy y (by simp)
  rw [UInt8.toNat_ofNat', UInt8.toNat_ofNat'] at e
  have e1 : x = y := by omega
  rw [e1, bytes_inj (fun z hz => hx z (List.mem_cons_of_mem _ hz)) (fun z hz => hy z (List.mem_cons_of_mem _ hz)) h.2]
theorem strL_eq {xs ys : List Int} (hx : ∀ x ∈ xs, 0 ≤ x ∧ x ≤ 255) (hy : ∀ x ∈ ys, 0 ≤ x ∧ x ≤ 255) : ((strL xs).toList == (strL ys).toList) = decide (xs = ys) := by
 rw [strL_toList, strL_toList]
 by_cases h : xs = ys
 ·subst h
  simp
 ·rw [decide_eq_false h]
  refine beq_eq_false_iff_ne.2 fun e => h (bytes_inj hx hy e)
theorem gen_streq {P : Program} {w : Bool} {l : Fr} {h : AH} {K : Value → AH → Prop} {t u : TypeId} {s e : Nat} {xs ys : List Int} (h1 : lk l s = some (aStr xs)) (h2 : lk l e = some (aStr ys)) (hx : ∀ x ∈ xs, 0 ≤ x ∧ x ≤ 255) (hy : ∀ x ∈ ys, 0 ≤ x ∧ x ≤ 255) (q : K (.bool (decide (xs = ys))) h) : iStep P w (.gen (.binOp .eql t (.tmp s) (.tmp e) u)) l h K := by
 refine ⟨_, _, ?_, q⟩
 have e1 : aEnv (trOf l) (.tmp s) = some (.string (strL xs)) := by simp only [aEnv, trOf_get, h1, aStr_strL]
 have e2 : aEnv (trOf l) (.tmp e) = some (.string (strL ys)) := by simp only [aEnv, trOf_get, h2, aStr_strL]
 refine op_bin e1 e2 rfl rfl rfl ?_
 rw [binOp_string_eql, strL_eq hx hy]
 rfl
end Go.Vm
namespace Go.Proofs.YtgjokhodccacoaaDoor
open Go.RowKit Go.Vm
set_option maxRecDepth 100000
theorem burst_get {kind n fr mask : Nat} {xs : List Int} (hk : 1 ≤ kind ∧ kind ≤ 250) (hn : xs.length = n) (hn2 : n ≤ 2000) (hB : isB xs) (hf : 8 * (1 + (groups n).length) ≤ fr) (hne : flipS (frB kind xs) fr mask 16 ≠ frB kind xs) : getR (flipS (frB kind xs) fr mask 16) 0 = (0, [], 0, 62) := by
 obtain ⟨g1, g2⟩ := groups_len (N := n) (by omega)
 have hl : (frB kind xs).length = 1 + (groups n).length + n + 2 := by rw [frB_len, frH_len, hn]
 have hBb : isB (frB kind xs) := frB_isB (by omega) hB (by omega)
 have hBc := flipS_B (fr := fr) (mask := mask) hBb 16
 have hcl : (flipS (frB kind xs) fr mask 16).length = 1 + (groups n).length + n + 2 := by rw [flipS_len, hl]
 have hh := frB_head (kind := kind) (xs := xs) (zs := [])
 have hfit := frB_fits (kind := kind) (xs := xs) (zs := [])
 rw [List.append_nil, hn] at hh hfit
 have byte : ∀ {ys : List Int} {i : Nat}, isB ys → i < ys.length → (nth ys i).toNat < 256 := fun hy hi => by have := hy _ (nth_mem hi); omega
 have hnf : ¬ fits (flipS (frB kind xs) fr mask 16) (1 + (groups n).length + n) := by
  refine fits_burst (a := fr) (e := exB (frB kind xs).length fr mask 16) (exB_lt _ _ _ _) (fun i hi => ?_) ?_ (fun p _ => bitP_flip 16) (byte hBb (by omega)) (byte hBb (by omega)) (byte hBc (by omega)) (byte hBc (by omega)) hfit
  ·unfold exB at hi
   split at hi
   ·rename_i h; exact ⟨h.1, h.2.1⟩
   ·exact absurd rfl hi
  ·rcases Classical.em (∃ i, i < 8 * (1 + (groups n).length + n) + 16 ∧ exB (frB kind xs).length fr mask 16 i ≠ 0) with h | h
   ·exact h
   ·exfalso
    refine hne (bits_eq hBc hBb hcl hl fun p hp => ?_)
    rw [bitP_flip]
    have : exB (frB kind xs).length fr mask 16 p = 0 := by
     rcases Nat.eq_zero_or_pos (exB (frB kind xs).length fr mask 16 p) with h0 | h0
     ·exact h0
     ·exact absurd ⟨p, by omega, by omega⟩ h
    rw [this, Nat.xor_zero]
 have hfr := (frF_head (ys := flipS (frB kind xs) fr mask 16) (kind := kind) (n := n) hk (by omega) (by rw [flipS_nth (by omega)]; exact hh.1) (fun j hj => by rw [flipS_nth (by omega)]; exact hh.2 j hj) (by omega) hBc).2 hnf
 unfold getR
 rw [if_neg (by omega), if_neg (by omega)]
 show (match frF _ 0 with | .ok kd a m nx => (kd, sub _ a m, (nx : Int), (0 : Int)) | .err e _ => (0, [], 0, e)) = _
 rw [hfr]
theorem flipped_f {n c fr mask sz k : Nat} {op : Bool} {bs : List Int} {h : AH} (hn : bs.length = n) (hB : isB bs) (hb : n ≤ 1000000) (hf : fr ≤ 100000000) (hm : mask < 65536) (hs : h.sees 0 = true) (hg : h.get k = some (.cells ⟨rows eB bs, sz, op⟩)) :
    Fc Tryd.prog 46 [.slice (some ⟨k, 0, none⟩) n c, .int .i64 fr, .int .u16 mask] h (sO h.next n) (h.news [.cells ⟨rows eB (flipS bs fr mask 16), 1, true⟩]) :=
 Fc.lift1o (os := [(n, rows eB (flipS bs fr mask 16), 1)]) (mk := fun ss => ss ++ [.int .i64 fr, .int .u16 mask]) (mkv := fun ss => ss.headD undef) (flipped_c n c fr mask bs hn hB hb hf hm) (MkL.app rfl) MkV.one (rows_no (f := eB) _) (fun o h => by simp at h; subst h; exact rows_no (f := eB) _) hs hg
def ir10_r0 : IC := .reg [⟨some 2, none, false, .box (.t 0)⟩,
 ⟨some 3, none, false, .box (.t 1)⟩,
 ⟨some 4, none, false, .mv (.k (.bool false))⟩] (some [2, 3])
def ir10_r1 : IC := .reg [⟨some 12, none, false, .fad 1 (.t 2)⟩,
 ⟨some 13, none, false, .ldc (.t 12)⟩,
 ⟨some 14, none, false, .len (.t 13)⟩,
 ⟨some 15, none, false, .cmp .gtr (.t 14) (.k (.int .i64 2000))⟩] (some [2, 3, 15])
def ir10_r2 : IC := .reg [⟨some 16, none, false, .call (.f 19) []⟩,
 ⟨some 4, none, false, .mv (.t 16)⟩] (some [4])
def ir10_1 : IC := .seq ir10_r2 .ret
def ir10_2 : IC := .cond (.t 15) ir10_1 .skip
def ir10_3 : IC := .seq ir10_r1 ir10_2
def ir10_r3 : IC := .draw [(⟨some 18, none, false, .fad 0 (.t 2)⟩, false, 0, 0),
 (⟨some 19, none, false, .ldc (.t 18)⟩, false, 1, 1),
 (⟨some 20, none, false, .fad 1 (.t 2)⟩, false, 0, 0),
 (⟨some 21, none, false, .ldc (.t 20)⟩, false, 4, 2),
 (⟨some 22, none, false, .call (.f 20) [(.t 21)]⟩, false, 12, 2),
 (⟨some 23, none, false, .bld [(.int .i64 0), (.slice none 0 0)] [(0, 1, (.t 19)), (1, 1, (.t 22))]⟩, false, 31, 0),
 (⟨some 24, none, false, .call (.f 22) [(.t 23)]⟩, true, 63, 0),
 (⟨some 17, none, false, .mv (.t 24)⟩, false, 127, 0),
 (⟨some 25, none, false, .ext (.t 17) 0⟩, false, 255, 0),
 (⟨some 26, none, false, .ext (.t 17) 1⟩, false, 255, 0),
 (⟨some 5, none, false, .mv (.t 25)⟩, false, 511, 0),
 (⟨some 6, none, false, .mv (.t 26)⟩, false, 2047, 0)] (some [2, 3, 5, 6])
def ir10_r4 : IC := .reg [⟨some 27, none, false, .mv (.t 6)⟩,
 ⟨some 28, none, false, .cmp .neq (.t 27) (.k (.int .i64 0))⟩] (some [2, 3, 5, 28])
def ir10_r5 : IC := .reg [⟨some 29, none, false, .mv (.t 5)⟩,
 ⟨some 30, none, false, .len (.t 29)⟩,
 ⟨some 31, none, false, .cmp .eql (.t 30) (.k (.int .i64 0))⟩,
 ⟨some 32, none, false, .mv (.t 31)⟩,
 ⟨some 33, some (32, true), false, .call (.f 19) []⟩,
 ⟨some 34, none, false, .pick (.t 32) (.t 33) (.k (.bool false))⟩,
 ⟨some 4, none, false, .mv (.t 34)⟩] (some [4])
def ir10_4 : IC := .seq ir10_r5 .ret
def ir10_5 : IC := .cond (.t 28) ir10_4 .skip
def ir10_6 : IC := .seq ir10_r4 ir10_5
def ir10_r6 : IC := .reg [⟨some 35, none, false, .mv (.t 5)⟩,
 ⟨some 36, none, false, .len (.t 35)⟩,
 ⟨some 37, none, false, .fad 1 (.t 2)⟩,
 ⟨some 38, none, false, .ldc (.t 37)⟩,
 ⟨some 39, none, false, .len (.t 38)⟩,
 ⟨some 40, none, false, .ar .sub (.t 36) (.t 39)⟩,
 ⟨some 41, none, false, .ar .sub (.t 40) (.k (.int .i64 2))⟩,
 ⟨some 7, none, false, .mv (.t 41)⟩] (some [3, 5, 7])
def ir10_r7 : IC := .reg [⟨some 42, none, false, .mv (.t 7)⟩,
 ⟨some 43, none, false, .cmp .lss (.t 42) (.k (.int .i64 2))⟩,
 ⟨some 44, none, false, .mv (.t 43)⟩,
 ⟨some 45, some (44, false), false, .fad 1 (.t 3)⟩,
 ⟨some 46, some (44, false), false, .ldc (.t 45)⟩,
 ⟨some 47, some (44, false), false, .cmp .eql (.t 46) (.k (.int .u16 0))⟩,
 ⟨some 48, none, false, .pick (.t 44) (.k (.bool true)) (.t 47)⟩] (some [3, 5, 7, 48])
def ir10_r8 : IC := .reg [⟨some 49, none, false, .mv (.t 7)⟩,
 ⟨some 50, none, false, .cmp .geq (.t 49) (.k (.int .i64 2))⟩,
 ⟨some 51, none, false, .mv (.t 50)⟩,
 ⟨some 52, some (51, true), false, .call (.f 19) []⟩,
 ⟨some 53, none, false, .pick (.t 51) (.t 52) (.k (.bool false))⟩,
 ⟨some 4, none, false, .mv (.t 53)⟩] (some [4])
def ir10_7 : IC := .seq ir10_r8 .ret
def ir10_8 : IC := .cond (.t 48) ir10_7 .skip
def ir10_9 : IC := .seq ir10_r7 ir10_8
def ir10_r9 : IC := .reg [⟨some 54, none, false, .mv (.t 5)⟩,
 ⟨some 55, none, false, .len (.t 54)⟩,
 ⟨some 56, none, false, .mv (.t 7)⟩,
 ⟨some 57, none, false, .ar .sub (.t 55) (.t 56)⟩,
 ⟨some 58, none, false, .ar .mul (.k (.int .i64 8)) (.t 57)⟩,
 ⟨some 8, none, false, .mv (.t 58)⟩] (some [3, 5, 7, 8])
def ir10_r10 : IC := .draw [(⟨some 59, none, false, .mv (.t 5)⟩, false, 0, 0),
 (⟨some 60, none, false, .mv (.t 7)⟩, false, 0, 0),
 (⟨some 61, none, false, .ar .mul (.k (.int .i64 8)) (.t 60)⟩, false, 2, 0),
 (⟨some 62, none, false, .fad 0 (.t 3)⟩, false, 0, 0),
 (⟨some 63, none, false, .ldc (.t 62)⟩, false, 8, 1),
 (⟨some 64, none, false, .conv .i64 (.t 63)⟩, false, 24, 0),
 (⟨some 65, none, false, .mv (.t 8)⟩, false, 0, 0),
 (⟨some 66, none, false, .div .rem (.t 64) (.t 65)⟩, false, 120, 0),
 (⟨some 67, none, false, .ar .add (.t 61) (.t 66)⟩, false, 254, 0),
 (⟨some 68, none, false, .fad 1 (.t 3)⟩, false, 0, 0),
 (⟨some 69, none, false, .ldc (.t 68)⟩, false, 512, 9),
 (⟨some 70, none, false, .call (.f 46) [(.t 59), (.t 67), (.t 69)]⟩, true, 2047, 0),
 (⟨some 9, none, false, .mv (.t 70)⟩, false, 4095, 0)] (some [5, 9])
def ir10_r11 : IC := .reg [⟨some 71, none, false, .mv (.t 9)⟩,
 ⟨some 72, none, false, .gen (.convert 22 9 (.tmp 71))⟩,
 ⟨some 73, none, false, .mv (.t 5)⟩,
 ⟨some 74, none, false, .gen (.convert 22 9 (.tmp 73))⟩,
 ⟨some 75, none, false, .gen (.binOp .eql 9 (.tmp 72) (.tmp 74) 9)⟩] (some [9, 75])
def ir10_r12 : IC := .reg [⟨some 76, none, false, .call (.f 19) []⟩,
 ⟨some 4, none, false, .mv (.t 76)⟩] (some [4])
def ir10_10 : IC := .seq ir10_r12 .ret
def ir10_11 : IC := .cond (.t 75) ir10_10 .skip
def ir10_12 : IC := .seq ir10_r11 ir10_11
def ir10_r13 : IC := .reg [⟨some 78, none, false, .mv (.t 9)⟩,
 ⟨some 79, none, false, .call (.f 25) [(.t 78), (.k (.int .i64 0))]⟩,
 ⟨some 77, none, false, .mv (.t 79)⟩,
 ⟨some 80, none, false, .ext (.t 77) 0⟩,
 ⟨some 81, none, false, .ext (.t 77) 1⟩,
 ⟨some 82, none, false, .ext (.t 77) 2⟩,
 ⟨some 10, none, false, .alloc [(.int .i64 0), (.slice none 0 0)]⟩,
 ⟨none, none, false, .st 2 (.t 10) (.t 80)⟩,
 ⟨some 11, none, false, .mv (.t 81)⟩,
 ⟨some 6, none, false, .mv (.t 82)⟩] (some [6, 10, 11])
def ir10_r14 : IC := .reg [⟨some 83, none, false, .mv (.t 6)⟩,
 ⟨some 84, none, false, .cmp .eql (.t 83) (.k (.int .i64 62))⟩,
 ⟨some 85, none, false, .mv (.t 84)⟩,
 ⟨some 86, some (85, true), false, .fad 0 (.t 10)⟩,
 ⟨some 87, some (85, true), false, .ldc (.t 86)⟩,
 ⟨some 88, some (85, true), false, .cmp .eql (.t 87) (.k (.int .i64 0))⟩,
 ⟨some 89, none, false, .pick (.t 85) (.t 88) (.k (.bool false))⟩,
 ⟨some 90, none, false, .mv (.t 89)⟩,
 ⟨some 91, some (90, true), false, .fad 1 (.t 10)⟩,
 ⟨some 92, some (90, true), false, .ldc (.t 91)⟩,
 ⟨some 93, some (90, true), false, .len (.t 92)⟩,
 ⟨some 94, some (90, true), false, .cmp .eql (.t 93) (.k (.int .i64 0))⟩,
 ⟨some 95, none, false, .pick (.t 90) (.t 94) (.k (.bool false))⟩,
 ⟨some 96, none, false, .mv (.t 95)⟩,
 ⟨some 97, some (96, true), false, .mv (.t 11)⟩,
 ⟨some 98, some (96, true), false, .cmp .eql (.t 97) (.k (.int .i64 0))⟩,
 ⟨some 99, none, false, .pick (.t 96) (.t 98) (.k (.bool false))⟩,
 ⟨some 100, none, false, .mv (.t 99)⟩,
 ⟨some 101, some (100, true), false, .call (.f 19) []⟩,
 ⟨some 102, none, false, .pick (.t 100) (.t 101) (.k (.bool false))⟩,
 ⟨some 4, none, false, .mv (.t 102)⟩] (some [4])
def ir10_13 : IC := .seq ir10_r14 .ret
def ir10_14 : IC := .seq ir10_r13 ir10_13
def ir10_15 : IC := .seq ir10_12 ir10_14
def ir10_16 : IC := .seq ir10_r10 ir10_15
def ir10_17 : IC := .seq ir10_r9 ir10_16
def ir10_18 : IC := .seq ir10_9 ir10_17
def ir10_19 : IC := .seq ir10_r6 ir10_18
def ir10_20 : IC := .seq ir10_6 ir10_19
def ir10_21 : IC := .seq ir10_r3 ir10_20
def ir10_22 : IC := .seq ir10_3 ir10_21
def ir10_23 : IC := .seq ir10_r0 ir10_22
def ir10 : IC := ir10_23
theorem fn10 : FnIs Tryd.prog 10 ir10 103 [.tmp 4] := ⟨Tryd.f10, Tryd.f10.body.getD .skip, Tryd.func10, by kernel_rfl, by kernel_rfl, by kernel_rfl, by kernel_rfl⟩
theorem bursts_c (n c at_ mask : Nat) (kind : Int) (xs : List Int) (hn : xs.length = n) (hB : isB xs) (ha : at_ < 65536) (hm : mask < 65536) :
    Fc Tryd.prog 10 [frV kind (.slice (some ⟨1, 0, none⟩) n c), .agg #[.int .u16 at_, .int .u16 mask]] (Hp 2 [none, srB xs]) (.bool true) (Hp 2 [none, srB xs]) := by
 refine Fc.intro0 fn10 (by simp) rfl rfl ?_; simp only [argF]
 refine ITri.seq ?_
 refine ITri.reg pok ?_; simp -implicitDefEqProofs (disch := first | decide | exact of_eq_true (eq_true rfl) | omega | assumption) only [ ↓vcD, vcE, ↓vcG, vcF, evs, evP, evB, intsOf, fillC, Value.cells, pt, Value.oneCell', reduceIte, reduceCtorEq, Nat.reduceEqDiff, Nat.reduceAdd, Nat.reduceMul, Nat.reduceLT, Nat.reduceBEq, Nat.reduceLeDiff, Nat.reduceSub]
 refine ITri.seq ?_
 refine ITri.seq ?_
 refine ITri.reg pok ?_; simp -implicitDefEqProofs (disch := first | decide | exact of_eq_true (eq_true rfl) | omega | assumption) only [ ↓vcD, vcE, ↓vcG, vcF, evs, evP, evB, intsOf, fillC, Value.cells, pt, Value.oneCell', reduceIte, reduceCtorEq, Nat.reduceEqDiff, Nat.reduceAdd, Nat.reduceMul, Nat.reduceLT, Nat.reduceBEq, Nat.reduceLeDiff, Nat.reduceSub]
 refine ITri.condD (by rfl) (fun h1 => ?_) (fun h1 => ?_)
 ·refine ITri.seq ?_
  refine ITri.reg pok ?_; simp -implicitDefEqProofs (disch := first | decide | exact of_eq_true (eq_true rfl) | omega | assumption) only [ ↓vcD, vcE, ↓vcG, vcF, evs, evP, evB, intsOf, fillC, Value.cells, pt, Value.oneCell', reduceIte, reduceCtorEq, Nat.reduceEqDiff, Nat.reduceAdd, Nat.reduceMul, Nat.reduceLT, Nat.reduceBEq, Nat.reduceLeDiff, Nat.reduceSub]
  refine ⟨_, _, knownT, ?_⟩
  try simp -implicitDefEqProofs (disch := first | decide | exact of_eq_true (eq_true rfl) | omega | assumption) only [ ↓vcD, vcE, ↓vcG, vcF, evs, evP, evB, intsOf, fillC, Value.cells, pt, Value.oneCell', reduceIte, reduceCtorEq, Nat.reduceEqDiff, Nat.reduceAdd, Nat.reduceMul, Nat.reduceLT, Nat.reduceBEq, Nat.reduceLeDiff, Nat.reduceSub]
  refine ITri.ret ?_; exact EndR.plain (by simp) (by rfl) (by rfl) (by rfl)
 have hb : n ≤ 2000 := by omega
 refine ITri.skip ?_; simp only [SeqQ_normal, BlkQ_normal]
 refine ITri.seq ?_
 refine ITri.draw pok ?_; simp -implicitDefEqProofs (disch := first | decide | exact of_eq_true (eq_true rfl) | omega | assumption) only [ ↓vcD, vcE, ↓vcG, vcF, evs, evP, evB, intsOf, fillC, Value.cells, pt, Value.oneCell', reduceIte, reduceCtorEq, Nat.reduceEqDiff, Nat.reduceAdd, Nat.reduceMul, Nat.reduceLT, Nat.reduceBEq, Nat.reduceLeDiff, Nat.reduceSub]
 refine ⟨_, _, ownB_f hn (by omega) (sees0 rfl (of_decide_eq_true rfl)) (get_hq rfl rfl), ?_⟩
 simp -implicitDefEqProofs (disch := first | decide | exact of_eq_true (eq_true rfl) | omega | assumption) only [news_c, news_n,  ↓vcD, vcE, ↓vcG, vcF, evs, evP, evB, intsOf, fillC, Value.cells, pt, Value.oneCell', reduceIte, reduceCtorEq, Nat.reduceEqDiff, Nat.reduceAdd, Nat.reduceMul, Nat.reduceLT, Nat.reduceBEq, Nat.reduceLeDiff, Nat.reduceSub]
 refine ⟨_, _, put_f hn hB (sees0 rfl (of_decide_eq_true rfl)) (get_hq rfl rfl), ?_⟩
 simp -implicitDefEqProofs (disch := first | decide | exact of_eq_true (eq_true rfl) | omega | assumption) only [news_c, news_n,  ↓vcD, vcE, ↓vcG, vcF, evs, evP, evB, intsOf, fillC, Value.cells, pt, Value.oneCell', reduceIte, reduceCtorEq, Nat.reduceEqDiff, Nat.reduceAdd, Nat.reduceMul, Nat.reduceLT, Nat.reduceBEq, Nat.reduceLeDiff, Nat.reduceSub]
 refine ITri.seq ?_
 refine ITri.seq ?_
 by_cases he : putE kind n = 0
 ·have hk : 1 ≤ kind ∧ kind ≤ 250 := by
    unfold putE at he
    split at he
    ·omega
    ·omega
  obtain ⟨K, rfl⟩ := Int.eq_ofNat_of_zero_le (show 0 ≤ kind by omega)
  have ex : putX K xs = frB K xs := by unfold putX; rw [hn, if_pos he]; rfl
  obtain ⟨g1, g2⟩ := groups_len (N := n) (by omega)
  have hl : (frB K xs).length = 1 + (groups n).length + n + 2 := by rw [frB_len, frH_len, hn]
  rw [he, ex]
  refine ITri.reg pok ?_; simp -implicitDefEqProofs (disch := first | decide | exact of_eq_true (eq_true rfl) | omega | assumption) only [decide_true, Bool.not_true,  ↓vcD, vcE, ↓vcG, vcF, evs, evP, evB, intsOf, fillC, Value.cells, pt, Value.oneCell', reduceIte, reduceCtorEq, Nat.reduceEqDiff, Nat.reduceAdd, Nat.reduceMul, Nat.reduceLT, Nat.reduceBEq, Nat.reduceLeDiff, Nat.reduceSub]
  refine ITri.cond (v := false) rfl (fun h => by cases h) (fun _ => ?_); refine ITri.skip ?_; simp only [SeqQ_normal, BlkQ_normal]
  refine ITri.seq ?_
  have hh : ((frB K xs).length : Int) - n - 2 = ((1 + (groups n).length : Nat) : Int) := by omega
  refine ITri.reg pok ?_; simp -implicitDefEqProofs (disch := first | decide | exact of_eq_true (eq_true rfl) | omega | assumption) only [hh,  ↓vcD, vcE, ↓vcG, vcF, evs, evP, evB, intsOf, fillC, Value.cells, pt, Value.oneCell', reduceIte, reduceCtorEq, Nat.reduceEqDiff, Nat.reduceAdd, Nat.reduceMul, Nat.reduceLT, Nat.reduceBEq, Nat.reduceLeDiff, Nat.reduceSub]
  refine ITri.seq ?_
  refine ITri.seq ?_
  have h2 : ¬ ((1 + (groups n).length : Nat) : Int) < 2 := by omega
  have h22 : (2 : Int) ≤ ((1 + (groups n).length : Nat) : Int) := by omega
  by_cases hm0 : mask = 0
  ·subst hm0
   refine ITri.reg pok ?_; simp -implicitDefEqProofs (disch := first | decide | exact of_eq_true (eq_true rfl) | omega | assumption) only [h2, decide_false, Int.natCast_zero, decide_true,  ↓vcD, vcE, ↓vcG, vcF, evs, evP, evB, intsOf, fillC, Value.cells, pt, Value.oneCell', reduceIte, reduceCtorEq, Nat.reduceEqDiff, Nat.reduceAdd, Nat.reduceMul, Nat.reduceLT, Nat.reduceBEq, Nat.reduceLeDiff, Nat.reduceSub]
   refine ITri.cond (v := true) rfl (fun _ => ?_) (fun h => by cases h)
   refine ITri.seq ?_
   refine ITri.reg pok ?_; simp -implicitDefEqProofs (disch := first | decide | exact of_eq_true (eq_true rfl) | omega | assumption) only [h22, decide_true,  ↓vcD, vcE, ↓vcG, vcF, evs, evP, evB, intsOf, fillC, Value.cells, pt, Value.oneCell', reduceIte, reduceCtorEq, Nat.reduceEqDiff, Nat.reduceAdd, Nat.reduceMul, Nat.reduceLT, Nat.reduceBEq, Nat.reduceLeDiff, Nat.reduceSub]
   refine ⟨_, _, knownT, ?_⟩
   try simp -implicitDefEqProofs (disch := first | decide | exact of_eq_true (eq_true rfl) | omega | assumption) only [ ↓vcD, vcE, ↓vcG, vcF, evs, evP, evB, intsOf, fillC, Value.cells, pt, Value.oneCell', reduceIte, reduceCtorEq, Nat.reduceEqDiff, Nat.reduceAdd, Nat.reduceMul, Nat.reduceLT, Nat.reduceBEq, Nat.reduceLeDiff, Nat.reduceSub]
   refine ITri.ret ?_; exact EndR.plain (by simp) (by rfl) (by rfl) (by rfl)
  have hm0' : ¬ (mask : Int) = 0 := by omega
  refine ITri.reg pok ?_; simp -implicitDefEqProofs (disch := first | decide | exact of_eq_true (eq_true rfl) | omega | assumption) only [h2, hm0', decide_false,  ↓vcD, vcE, ↓vcG, vcF, evs, evP, evB, intsOf, fillC, Value.cells, pt, Value.oneCell', reduceIte, reduceCtorEq, Nat.reduceEqDiff, Nat.reduceAdd, Nat.reduceMul, Nat.reduceLT, Nat.reduceBEq, Nat.reduceLeDiff, Nat.reduceSub]
  refine ITri.cond (v := false) rfl (fun h => by cases h) (fun _ => ?_); refine ITri.skip ?_; simp only [SeqQ_normal, BlkQ_normal]
  refine ITri.seq ?_
  have h9 : 8 * (((frB K xs).length : Int) - ((1 + (groups n).length : Nat) : Int)) = ((8 * (n + 2) : Nat) : Int) := by omega
  refine ITri.reg pok ?_; simp -implicitDefEqProofs (disch := first | decide | exact of_eq_true (eq_true rfl) | omega | assumption) only [h9,  ↓vcD, vcE, ↓vcG, vcF, evs, evP, evB, intsOf, fillC, Value.cells, pt, Value.oneCell', reduceIte, reduceCtorEq, Nat.reduceEqDiff, Nat.reduceAdd, Nat.reduceMul, Nat.reduceLT, Nat.reduceBEq, Nat.reduceLeDiff, Nat.reduceSub]
  refine ITri.seq ?_
  have h10 : 8 * ((1 + (groups n).length : Nat) : Int) + ((at_ : Int) % ((8 * (n + 2) : Nat) : Int)) = ((8 * (1 + (groups n).length) + at_ % (8 * (n + 2)) : Nat) : Int) := by
   rw [← Int.natCast_emod]
   omega
  have h11 : at_ % (8 * (n + 2)) < 8 * (n + 2) := Nat.mod_lt _ (by omega)
  have hfr : 8 * (1 + (groups n).length) ≤ 8 * (1 + (groups n).length) + at_ % (8 * (n + 2)) := Nat.le_add_right _ _
  have hfr2 : 8 * (1 + (groups n).length) + at_ % (8 * (n + 2)) ≤ 100000000 := by omega
  refine ITri.draw pok ?_; simp -implicitDefEqProofs (disch := first | decide | exact of_eq_true (eq_true rfl) | omega | assumption) only [h10,  ↓vcD, vcE, ↓vcG, vcF, evs, evP, evB, intsOf, fillC, Value.cells, pt, Value.oneCell', reduceIte, reduceCtorEq, Nat.reduceEqDiff, Nat.reduceAdd, Nat.reduceMul, Nat.reduceLT, Nat.reduceBEq, Nat.reduceLeDiff, Nat.reduceSub]
  have hBb : isB (frB K xs) := frB_isB (by omega) hB (by omega)
  refine ⟨_, _, flipped_f rfl hBb (by omega) hfr2 hm (sees0 rfl (of_decide_eq_true rfl)) (get_hq rfl rfl), ?_⟩
  have hget := burst_get (kind := K) (fr := 8 * (1 + (groups n).length) + at_ % (8 * (n + 2))) (mask := mask) (xs := xs) (by omega) hn hb hB hfr
  have hBc := flipS_B (fr := 8 * (1 + (groups n).length) + at_ % (8 * (n + 2))) (mask := mask) hBb 16
  have hcl : (flipS (frB K xs) (8 * (1 + (groups n).length) + at_ % (8 * (n + 2))) mask 16).length = (frB K xs).length := flipS_len 16
  generalize flipS (frB K xs) (8 * (1 + (groups n).length) + at_ % (8 * (n + 2))) mask 16 = cs at *
  simp -implicitDefEqProofs (disch := first | decide | exact of_eq_true (eq_true rfl) | omega | assumption) only [news_c, news_n,  ↓vcD, vcE, ↓vcG, vcF, evs, evP, evB, intsOf, fillC, Value.cells, pt, Value.oneCell', reduceIte, reduceCtorEq, Nat.reduceEqDiff, Nat.reduceAdd, Nat.reduceMul, Nat.reduceLT, Nat.reduceBEq, Nat.reduceLeDiff, Nat.reduceSub]
  refine ITri.seq ?_
  refine ITri.seq ?_
  refine ITri.reg pok ?_; simp -implicitDefEqProofs (disch := first | decide | exact of_eq_true (eq_true rfl) | omega | assumption) only [ ↓vcD, vcE, ↓vcG, vcF, evs, evP, evB, intsOf, fillC, Value.cells, pt, Value.oneCell', reduceIte, reduceCtorEq, Nat.reduceEqDiff, Nat.reduceAdd, Nat.reduceMul, Nat.reduceLT, Nat.reduceBEq, Nat.reduceLeDiff, Nat.reduceSub]
  refine gen_str rfl u_slB u_uint8 u_str rfl hcl (get_hq rfl rfl) ?_
  try simp -implicitDefEqProofs (disch := first | decide | exact of_eq_true (eq_true rfl) | omega | assumption) only [ ↓vcD, vcE, ↓vcG, vcF, evs, evP, evB, intsOf, fillC, Value.cells, pt, Value.oneCell', reduceIte, reduceCtorEq, Nat.reduceEqDiff, Nat.reduceAdd, Nat.reduceMul, Nat.reduceLT, Nat.reduceBEq, Nat.reduceLeDiff, Nat.reduceSub]
  refine gen_str rfl u_slB u_uint8 u_str rfl rfl (get_hq rfl rfl) ?_
  try simp -implicitDefEqProofs (disch := first | decide | exact of_eq_true (eq_true rfl) | omega | assumption) only [ ↓vcD, vcE, ↓vcG, vcF, evs, evP, evB, intsOf, fillC, Value.cells, pt, Value.oneCell', reduceIte, reduceCtorEq, Nat.reduceEqDiff, Nat.reduceAdd, Nat.reduceMul, Nat.reduceLT, Nat.reduceBEq, Nat.reduceLeDiff, Nat.reduceSub]
  refine gen_streq rfl rfl hBc hBb ?_
  by_cases hcb : cs = frB K xs
  ·rw [decide_eq_true hcb]
   try simp -implicitDefEqProofs (disch := first | decide | exact of_eq_true (eq_true rfl) | omega | assumption) only [ ↓vcD, vcE, ↓vcG, vcF, evs, evP, evB, intsOf, fillC, Value.cells, pt, Value.oneCell', reduceIte, reduceCtorEq, Nat.reduceEqDiff, Nat.reduceAdd, Nat.reduceMul, Nat.reduceLT, Nat.reduceBEq, Nat.reduceLeDiff, Nat.reduceSub]
   refine ITri.cond (v := true) rfl (fun _ => ?_) (fun h => by cases h)
   refine ITri.seq ?_
   refine ITri.reg pok ?_; simp -implicitDefEqProofs (disch := first | decide | exact of_eq_true (eq_true rfl) | omega | assumption) only [ ↓vcD, vcE, ↓vcG, vcF, evs, evP, evB, intsOf, fillC, Value.cells, pt, Value.oneCell', reduceIte, reduceCtorEq, Nat.reduceEqDiff, Nat.reduceAdd, Nat.reduceMul, Nat.reduceLT, Nat.reduceBEq, Nat.reduceLeDiff, Nat.reduceSub]
   refine ⟨_, _, knownT, ?_⟩
   try simp -implicitDefEqProofs (disch := first | decide | exact of_eq_true (eq_true rfl) | omega | assumption) only [ ↓vcD, vcE, ↓vcG, vcF, evs, evP, evB, intsOf, fillC, Value.cells, pt, Value.oneCell', reduceIte, reduceCtorEq, Nat.reduceEqDiff, Nat.reduceAdd, Nat.reduceMul, Nat.reduceLT, Nat.reduceBEq, Nat.reduceLeDiff, Nat.reduceSub]
   refine ITri.ret ?_; exact EndR.plain (by simp) (by rfl) (by rfl) (by rfl)
  rw [decide_eq_false hcb]
  try simp -implicitDefEqProofs (disch := first | decide | exact of_eq_true (eq_true rfl) | omega | assumption) only [ ↓vcD, vcE, ↓vcG, vcF, evs, evP, evB, intsOf, fillC, Value.cells, pt, Value.oneCell', reduceIte, reduceCtorEq, Nat.reduceEqDiff, Nat.reduceAdd, Nat.reduceMul, Nat.reduceLT, Nat.reduceBEq, Nat.reduceLeDiff, Nat.reduceSub]
  refine ITri.cond (v := false) rfl (fun h => by cases h) (fun _ => ?_); refine ITri.skip ?_; simp only [SeqQ_normal, BlkQ_normal]
  refine ITri.seq ?_
  refine ITri.reg pok ?_; simp -implicitDefEqProofs (disch := first | decide | exact of_eq_true (eq_true rfl) | omega | assumption) only [ ↓vcD, vcE, ↓vcG, vcF, evs, evP, evB, intsOf, fillC, Value.cells, pt, Value.oneCell', reduceIte, reduceCtorEq, Nat.reduceEqDiff, Nat.reduceAdd, Nat.reduceMul, Nat.reduceLT, Nat.reduceBEq, Nat.reduceLeDiff, Nat.reduceSub]
  refine ⟨_, _, get_f 0 hcl hBc (by omega) (sees0 rfl (of_decide_eq_true rfl)) (get_hq rfl rfl), ?_⟩
  rw [hget hcb]
  simp -implicitDefEqProofs (disch := first | decide | exact of_eq_true (eq_true rfl) | omega | assumption) only [news_c, news_n,  ↓vcD, vcE, ↓vcG, vcF, evs, evP, evB, intsOf, fillC, Value.cells, pt, Value.oneCell', reduceIte, reduceCtorEq, Nat.reduceEqDiff, Nat.reduceAdd, Nat.reduceMul, Nat.reduceLT, Nat.reduceBEq, Nat.reduceLeDiff, Nat.reduceSub]
  refine ITri.seq ?_
  refine ITri.reg pok ?_; simp -implicitDefEqProofs (disch := first | decide | exact of_eq_true (eq_true rfl) | omega | assumption) only [decide_true, List.length_nil, Int.natCast_zero,  ↓vcD, vcE, ↓vcG, vcF, evs, evP, evB, intsOf, fillC, Value.cells, pt, Value.oneCell', reduceIte, reduceCtorEq, Nat.reduceEqDiff, Nat.reduceAdd, Nat.reduceMul, Nat.reduceLT, Nat.reduceBEq, Nat.reduceLeDiff, Nat.reduceSub]
  refine ⟨_, _, knownT, ?_⟩
  try simp -implicitDefEqProofs (disch := first | decide | exact of_eq_true (eq_true rfl) | omega | assumption) only [ ↓vcD, vcE, ↓vcG, vcF, evs, evP, evB, intsOf, fillC, Value.cells, pt, Value.oneCell', reduceIte, reduceCtorEq, Nat.reduceEqDiff, Nat.reduceAdd, Nat.reduceMul, Nat.reduceLT, Nat.reduceBEq, Nat.reduceLeDiff, Nat.reduceSub]
  refine ITri.ret ?_; exact EndR.plain (by simp) (by rfl) (by rfl) (by rfl)
 ·have ex : putX kind xs = [] := by unfold putX; rw [hn, if_neg he]
  rw [ex]
  refine ITri.reg pok ?_; simp -implicitDefEqProofs (disch := first | decide | exact of_eq_true (eq_true rfl) | omega | assumption) only [he, decide_false, Bool.not_false,  ↓vcD, vcE, ↓vcG, vcF, evs, evP, evB, intsOf, fillC, Value.cells, pt, Value.oneCell', reduceIte, reduceCtorEq, Nat.reduceEqDiff, Nat.reduceAdd, Nat.reduceMul, Nat.reduceLT, Nat.reduceBEq, Nat.reduceLeDiff, Nat.reduceSub]
  refine ITri.cond (v := true) rfl (fun _ => ?_) (fun h => by cases h)
  refine ITri.seq ?_
  refine ITri.reg pok ?_; simp -implicitDefEqProofs (disch := first | decide | exact of_eq_true (eq_true rfl) | omega | assumption) only [List.length_nil, Int.natCast_zero, decide_true,  ↓vcD, vcE, ↓vcG, vcF, evs, evP, evB, intsOf, fillC, Value.cells, pt, Value.oneCell', reduceIte, reduceCtorEq, Nat.reduceEqDiff, Nat.reduceAdd, Nat.reduceMul, Nat.reduceLT, Nat.reduceBEq, Nat.reduceLeDiff, Nat.reduceSub]
  refine ⟨_, _, knownT, ?_⟩
  try simp -implicitDefEqProofs (disch := first | decide | exact of_eq_true (eq_true rfl) | omega | assumption) only [ ↓vcD, vcE, ↓vcG, vcF, evs, evP, evB, intsOf, fillC, Value.cells, pt, Value.oneCell', reduceIte, reduceCtorEq, Nat.reduceEqDiff, Nat.reduceAdd, Nat.reduceMul, Nat.reduceLT, Nat.reduceBEq, Nat.reduceLeDiff, Nat.reduceSub]
  refine ITri.ret ?_; exact EndR.plain (by simp) (by rfl) (by rfl) (by rfl)
end Go.Proofs.YtgjokhodccacoaaDoor
