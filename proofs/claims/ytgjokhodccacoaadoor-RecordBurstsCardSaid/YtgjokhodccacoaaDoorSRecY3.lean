import Derived.Test.YtgjokhodccacoaaDoorSRecY2
import Derived.Test.YtgjokhodccacoaaDoorSRecW8
set_option linter.unusedSimpArgs false
set_option linter.unusedVariables false
namespace Go.Proofs.YtgjokhodccacoaaDoor
open Go.RowKit Go.Vm
set_option maxRecDepth 100000
def flipS (bs : List Int) (fr mask : Nat) : Nat → List Int
 | 0 => bs
 | i + 1 => if fr + i < 8 * bs.length ∧ mask / 2 ^ i % 2 = 1 then (flipS bs fr mask i).set ((fr + i) / 8) (((nth (flipS bs fr mask i) ((fr + i) / 8)).toNat ^^^ (128 / 2 ^ ((fr + i) % 8)) : Nat) : Int) else flipS bs fr mask i
theorem flipS_len {bs : List Int} {fr mask : Nat} : ∀ i, (flipS bs fr mask i).length = bs.length
 | 0 => rfl
 | i + 1 => by
  rw [flipS]
  split
  ·rw [List.length_set, flipS_len i]
  ·exact flipS_len i
theorem xor_b {a b : Nat} (ha : a < 256) (hb : b < 256) : a ^^^ b < 256 := Nat.xor_lt_two_pow (n := 8) ha hb
theorem pw_lt (t : Nat) : 128 / 2 ^ t < 256 := Nat.lt_of_le_of_lt (Nat.div_le_self _ _) (by decide)
theorem flipS_B {bs : List Int} {fr mask : Nat} (h : isB bs) : ∀ i, isB (flipS bs fr mask i)
 | 0 => h
 | i + 1 => by
  have ih := flipS_B (fr := fr) (mask := mask) h i
  rw [flipS]
  split
  ·rename_i hc
   intro x hx
   rcases List.mem_or_eq_of_mem_set hx with hx | rfl
   ·exact ih x hx
   ·have hb := ih _ (nth_mem (xs := flipS bs fr mask i) (i := (fr + i) / 8) (by rw [flipS_len]; omega))
    have := xor_b (a := (nth (flipS bs fr mask i) ((fr + i) / 8)).toNat) (b := 128 / 2 ^ ((fr + i) % 8)) (by omega) (pw_lt _)
    omega
  ·exact ih
theorem bit_tab : ∀ t, t < 8 → ∀ u, u < 8 → 128 / 2 ^ t / 2 ^ (7 - u) % 2 = if t = u then 1 else 0 := by decide
theorem bit_xor {y z k : Nat} : (y ^^^ z) / 2 ^ k % 2 = (y / 2 ^ k % 2) ^^^ (z / 2 ^ k % 2) := by
 rw [← Nat.shiftRight_eq_div_pow, Nat.shiftRight_xor_distrib, Nat.shiftRight_eq_div_pow, Nat.shiftRight_eq_div_pow]
 have := Nat.xor_mod_two_pow (a := y / 2 ^ k) (b := z / 2 ^ k) (n := 1)
 exact this
theorem nth_set' {xs : List Int} {i j : Nat} {v : Int} (hi : i < xs.length) : nth (xs.set i v) j = if j = i then v else nth xs j := by
 unfold nth
 rw [List.getD_eq_getElem?_getD, List.getD_eq_getElem?_getD, List.getElem?_set]
 by_cases h : i = j
 ·subst h
  rw [if_pos rfl, if_pos hi, if_pos rfl]
  rfl
 ·rw [if_neg h, if_neg fun e => h e.symm]
theorem bitP_set {xs : List Int} {k p : Nat} (hk : k < 8 * xs.length) : bitP (xs.set (k / 8) (((nth xs (k / 8)).toNat ^^^ (128 / 2 ^ (k % 8)) : Nat) : Int)) p = bitP xs p ^^^ (if p = k then 1 else 0) := by
 unfold bitP
 rw [nth_set' (by omega)]
 by_cases h : p / 8 = k / 8
 ·rw [if_pos h, Int.toNat_natCast, bit_xor, bit_tab _ (by omega) _ (by omega), h]
  by_cases h2 : p = k
  ·rw [if_pos (by rw [h2]), if_pos h2]
  ·rw [if_neg (by omega), if_neg h2]
 ·rw [if_neg h, if_neg (by intro e; rw [e] at h; exact h rfl), Nat.xor_zero]
def exB (n fr mask i p : Nat) : Nat := if fr ≤ p ∧ p < fr + i ∧ p < 8 * n ∧ mask / 2 ^ (p - fr) % 2 = 1 then 1 else 0
theorem exB_lt (n fr mask i p : Nat) : exB n fr mask i p < 2 := by unfold exB; split <;> decide
theorem bitP_flip {bs : List Int} {fr mask p : Nat} : ∀ i, bitP (flipS bs fr mask i) p = bitP bs p ^^^ exB bs.length fr mask i p
 | 0 => by
  have : exB bs.length fr mask 0 p = 0 := by unfold exB; rw [if_neg (by omega)]
  rw [this, Nat.xor_zero]
  rfl
 | i + 1 => by
  have ih := bitP_flip (bs := bs) (fr := fr) (mask := mask) (p := p) i
  rw [flipS]
  split
  ·rename_i hc
   rw [bitP_set (by rw [flipS_len]; exact hc.1), ih, Nat.xor_assoc]
   congr 1
   unfold exB
   by_cases hp : p = fr + i
   ·subst hp
    rw [if_pos rfl, if_neg (by omega), if_pos ⟨by omega, by omega, hc.1, by rw [Nat.add_sub_cancel_left]; exact hc.2⟩]
    rfl
   ·rw [if_neg hp, Nat.xor_zero]
    by_cases h2 : fr ≤ p ∧ p < fr + i ∧ p < 8 * bs.length ∧ mask / 2 ^ (p - fr) % 2 = 1
    ·rw [if_pos h2, if_pos ⟨h2.1, by omega, h2.2.2.1, h2.2.2.2⟩]
    ·rw [if_neg h2, if_neg (fun h3 => h2 ⟨h3.1, by omega, h3.2.2.1, h3.2.2.2⟩)]
  ·rename_i hc
   rw [ih]
   congr 1
   unfold exB
   by_cases hp : p = fr + i
   ·subst hp
    rw [if_neg (by omega), if_neg (fun h3 => hc ⟨h3.2.2.1, by have := h3.2.2.2; rwa [Nat.add_sub_cancel_left] at this⟩)]
   ·by_cases h2 : fr ≤ p ∧ p < fr + i ∧ p < 8 * bs.length ∧ mask / 2 ^ (p - fr) % 2 = 1
    ·rw [if_pos h2, if_pos ⟨h2.1, by omega, h2.2.2.1, h2.2.2.2⟩]
    ·rw [if_neg h2, if_neg (fun h3 => h2 ⟨h3.1, by omega, h3.2.2.1, h3.2.2.2⟩)]
theorem flipS_nth {bs : List Int} {fr mask j : Nat} (h : 8 * j + 8 ≤ fr) : ∀ i, nth (flipS bs fr mask i) j = nth bs j
 | 0 => rfl
 | i + 1 => by
  have ih := flipS_nth (bs := bs) (mask := mask) h i
  rw [flipS]
  split
  ·rename_i hc
   rw [nth_set' (by rw [flipS_len]; omega), if_neg (by omega), ih]
  ·exact ih
theorem bits_eq {xs ys : List Int} {n : Nat} (hx : isB xs) (hy : isB ys) (hxl : xs.length = n) (hyl : ys.length = n) (h : ∀ p, p < 8 * n → bitP xs p = bitP ys p) : xs = ys := by
 have hb : ∀ i, i < n → nth xs i = nth ys i := by
  intro i hi
  have b1 := hx _ (nth_mem (xs := xs) (i := i) (by omega))
  have b2 := hy _ (nth_mem (xs := ys) (i := i) (by omega))
  have e1 := byte_wd (ys := xs) (K := i) (by omega)
  have e2 := byte_wd (ys := ys) (K := i) (by omega)
  have e3 : ∀ k a, a + k ≤ 8 * n → wd (bitP xs) a k = wd (bitP ys) a k := by
   intro k
   induction k with
   | zero => intro a _; rfl
   | succ k ih =>
    intro a ha
    show bitP xs a * 2 ^ k + wd _ (a + 1) k = bitP ys a * 2 ^ k + wd _ (a + 1) k
    rw [h a (by omega), ih (a + 1) (by omega)]
  rw [e3 8 (8 * i) (by omega), e2] at e1
  omega
 apply List.ext_getElem?
 intro i
 by_cases hi : i < n
 ·rw [get_nth (by omega), get_nth (by omega), hb i hi]
 ·rw [List.getElem?_eq_none (by omega), List.getElem?_eq_none (by omega)]
theorem inR_u16 (n : Int) : inR .u16 n = (0 ≤ n ∧ n ≤ 65535) := rfl
theorem shr16 {a k : Nat} (hk : k ≤ 15) : shI .shr .u16 (a : Int) (k : Int) = ((a / 2 ^ k : Nat) : Int) := by
 show (a : Int).fdiv (2 ^ (min (k : Int).toNat 16)) = _
 have h2 : (0 : Int) ≤ 2 ^ k := Int.le_of_lt (Int.pow_pos (by decide))
 rw [show (min (k : Int).toNat 16) = k by rw [Int.toNat_natCast]; omega, Int.fdiv_eq_ediv_of_nonneg _ h2]
 simp
theorem shr128 {k : Nat} (hk : k ≤ 7) : shI .shr .u8 128 (k : Int) = ((128 / 2 ^ k : Nat) : Int) := by
 show (128 : Int).fdiv (2 ^ (min (k : Int).toNat 8)) = _
 have h2 : (0 : Int) ≤ 2 ^ k := Int.le_of_lt (Int.pow_pos (by decide))
 rw [show (min (k : Int).toNat 8) = k by rw [Int.toNat_natCast]; omega, Int.fdiv_eq_ediv_of_nonneg _ h2]
 simp
theorem and_1 {a : Nat} (ha : a < 65536) : btI .and .u16 (a : Int) 1 = ((a % 2 : Nat) : Int) := by
 show IntKind.u16.wrap _ = _
 rw [show IntKind.u16.bits = 16 from rfl, show (1 : Int) = ((1 : Nat) : Int) from rfl, BitVec.ofInt_natCast, BitVec.ofInt_natCast, BitVec.toNat_and, BitVec.toNat_ofNat, BitVec.toNat_ofNat]
 have : a % 2 ^ 16 &&& 1 % 2 ^ 16 = a % 2 := by
  rw [Nat.mod_eq_of_lt (by omega : a < 2 ^ 16), show 1 % 2 ^ 16 = 2 ^ 1 - 1 from rfl, Nat.and_two_pow_sub_one_eq_mod]
 rw [this]
 exact wrap_inR (by rw [inR_u16]; omega)
theorem xor_u8 {a b : Nat} (ha : a < 256) (hb : b < 256) : btI .xor .u8 (a : Int) (b : Int) = ((a ^^^ b : Nat) : Int) := by
 have h := xor_b ha hb
 show IntKind.u8.wrap _ = _
 rw [show IntKind.u8.bits = 8 from rfl, BitVec.ofInt_natCast, BitVec.ofInt_natCast, BitVec.toNat_xor, BitVec.toNat_ofNat, BitVec.toNat_ofNat, Nat.mod_eq_of_lt (by omega), Nat.mod_eq_of_lt (by omega)]
 exact wrap_inR (by rw [inR_u8]; omega)
def ir46_r0 : IC := .reg [⟨some 6, none, false, .mv (.k (.slice none 0 0))⟩] (some [0, 1, 2])
def ir46_r1 : IC := .reg [⟨some 10, none, false, .mv (.t 0)⟩,
 ⟨some 11, none, false, .call (.f 20) [(.t 10)]⟩,
 ⟨some 7, none, false, .mv (.t 11)⟩] (some [1, 2, 7])
def ir46_r2 : IC := .reg [⟨some 8, none, false, .mv (.k (.int .i64 0))⟩] (some [1, 2, 7, 8])
def ir46_r3 : IC := .reg [⟨some 12, none, false, .mv (.t 8)⟩,
 ⟨some 13, none, false, .cmp .lss (.t 12) (.k (.int .i64 16))⟩] (some [1, 2, 7, 8, 13])
def ir46_1 : IC := .cond (.t 13) .skip (.exit 0)
def ir46_2 : IC := .seq ir46_r3 ir46_1
def ir46_r5 : IC := .reg [⟨some 16, none, false, .mv (.t 1)⟩,
 ⟨some 17, none, false, .mv (.t 8)⟩,
 ⟨some 18, none, false, .ar .add (.t 16) (.t 17)⟩,
 ⟨some 9, none, false, .mv (.t 18)⟩] (some [1, 2, 7, 8, 9])
def ir46_r6 : IC := .reg [⟨some 19, none, false, .mv (.t 9)⟩,
 ⟨some 20, none, false, .mv (.t 7)⟩,
 ⟨some 21, none, false, .len (.t 20)⟩,
 ⟨some 22, none, false, .ar .mul (.k (.int .i64 8)) (.t 21)⟩,
 ⟨some 23, none, false, .cmp .lss (.t 19) (.t 22)⟩,
 ⟨some 24, none, false, .mv (.t 23)⟩,
 ⟨some 25, some (24, true), false, .mv (.t 2)⟩,
 ⟨some 26, some (24, true), false, .mv (.t 8)⟩,
 ⟨some 27, some (24, true), false, .conv .u64 (.t 26)⟩,
 ⟨some 28, some (24, true), false, .shf .shr (.t 25) (.t 27)⟩,
 ⟨some 29, some (24, true), false, .bits .and (.t 28) (.k (.int .u16 1))⟩,
 ⟨some 30, some (24, true), false, .cmp .eql (.t 29) (.k (.int .u16 1))⟩,
 ⟨some 31, none, false, .pick (.t 24) (.t 30) (.k (.bool false))⟩] (some [1, 2, 7, 8, 9, 31])
def ir46_r7 : IC := .reg [⟨some 32, none, false, .mv (.t 7)⟩,
 ⟨some 33, none, false, .mv (.t 9)⟩,
 ⟨some 34, none, false, .div .quo (.t 33) (.k (.int .i64 8))⟩,
 ⟨some 35, none, false, .iad 1 (.t 32) (.t 34)⟩,
 ⟨some 36, none, false, .ldc (.t 35)⟩,
 ⟨some 37, none, false, .mv (.t 9)⟩,
 ⟨some 38, none, false, .div .rem (.t 37) (.k (.int .i64 8))⟩,
 ⟨some 39, none, false, .conv .u64 (.t 38)⟩,
 ⟨some 40, none, false, .shf .shr (.k (.int .u8 128)) (.t 39)⟩,
 ⟨some 41, none, false, .bits .xor (.t 36) (.t 40)⟩,
 ⟨some 42, none, false, .iad 1 (.t 32) (.t 34)⟩,
 ⟨none, none, false, .st 1 (.t 42) (.t 41)⟩] (some [1, 2, 7, 8])
def ir46_3 : IC := .cond (.t 31) ir46_r7 .skip
def ir46_4 : IC := .seq ir46_r6 ir46_3
def ir46_5 : IC := .seq ir46_r5 ir46_4
def ir46_6 : IC := .block 1 ir46_5
def ir46_r4 : IC := .reg [⟨some 14, none, false, .mv (.t 8)⟩,
 ⟨some 15, none, false, .ar .add (.t 14) (.k (.int .i64 1))⟩,
 ⟨some 8, none, false, .mv (.t 15)⟩] (some [1, 2, 7, 8])
def ir46_7 : IC := .seq ir46_6 ir46_r4
def ir46_8 : IC := .seq ir46_2 ir46_7
def ir46_9 : IC := .loop ir46_8
def ir46_10 : IC := .block 0 ir46_9
def ir46_11 : IC := .seq ir46_r2 ir46_10
def ir46_r8 : IC := .reg [⟨some 43, none, false, .mv (.t 7)⟩,
 ⟨some 6, none, false, .mv (.t 43)⟩] (some [6])
def ir46_12 : IC := .seq ir46_r8 .ret
def ir46_13 : IC := .seq ir46_11 ir46_12
def ir46_14 : IC := .seq ir46_r1 ir46_13
def ir46_15 : IC := .seq ir46_r0 ir46_14
def ir46 : IC := ir46_15
theorem fn46 : FnIs Tryd.prog 46 ir46 44 [.tmp 6] := ⟨Tryd.f46, Tryd.f46.body.getD .skip, Tryd.func46, by kernel_rfl, by kernel_rfl, by kernel_rfl, by kernel_rfl⟩
theorem flipped_c (n c fr mask : Nat) (bs : List Int) (hn : bs.length = n) (hB : isB bs) (hb : n ≤ 1000000) (hf : fr ≤ 100000000) (hm : mask < 65536) :
    Fc Tryd.prog 46 [.slice (some ⟨1, 0, none⟩) n c, .int .i64 fr, .int .u16 mask] (Hp 2 [none, srB bs]) (sO 2 n) ((Hp 2 [none, srB bs]).news [.cells ⟨rows eB (flipS bs fr mask 16), 1, true⟩]) := by
 refine Fc.introR fn46 (by simp) rfl rfl ?_; simp only [argF]
 refine ITri.seq ?_
 refine ITri.reg pok ?_; simp -implicitDefEqProofs (disch := first | decide | exact of_eq_true (eq_true rfl) | omega | assumption) only [ ↓vcD, vcE, ↓vcG, vcF, evs, evP, evB, intsOf, fillC, Value.cells, pt, Value.oneCell', reduceIte, reduceCtorEq, Nat.reduceEqDiff, Nat.reduceAdd, Nat.reduceMul, Nat.reduceLT, Nat.reduceBEq, Nat.reduceLeDiff, Nat.reduceSub]
 refine ITri.seq ?_
 refine ITri.reg pok ?_; simp -implicitDefEqProofs (disch := first | decide | exact of_eq_true (eq_true rfl) | omega | assumption) only [ ↓vcD, vcE, ↓vcG, vcF, evs, evP, evB, intsOf, fillC, Value.cells, pt, Value.oneCell', reduceIte, reduceCtorEq, Nat.reduceEqDiff, Nat.reduceAdd, Nat.reduceMul, Nat.reduceLT, Nat.reduceBEq, Nat.reduceLeDiff, Nat.reduceSub]
 refine ⟨_, _, ownB_f hn hb (sees0 rfl (of_decide_eq_true rfl)) (get_hq rfl rfl), ?_⟩
 simp -implicitDefEqProofs (disch := first | decide | exact of_eq_true (eq_true rfl) | omega | assumption) only [news_c, news_n,  ↓vcD, vcE, ↓vcG, vcF, evs, evP, evB, intsOf, fillC, Value.cells, pt, Value.oneCell', reduceIte, reduceCtorEq, Nat.reduceEqDiff, Nat.reduceAdd, Nat.reduceMul, Nat.reduceLT, Nat.reduceBEq, Nat.reduceLeDiff, Nat.reduceSub]
 refine ITri.seq ?_
 refine ITri.seq ?_
 refine ITri.reg pok ?_; simp -implicitDefEqProofs (disch := first | decide | exact of_eq_true (eq_true rfl) | omega | assumption) only [ ↓vcD, vcE, ↓vcG, vcF, evs, evP, evB, intsOf, fillC, Value.cells, pt, Value.oneCell', reduceIte, reduceCtorEq, Nat.reduceEqDiff, Nat.reduceAdd, Nat.reduceMul, Nat.reduceLT, Nat.reduceBEq, Nat.reduceLeDiff, Nat.reduceSub]
 refine ITri.block ?_
 refine ITri.loop (fun i : Nat => [(1, .int .i64 fr), (2, .int .u16 mask), (7, sO 2 n), (8, .int .i64 i)]) (fun _ => []) (fun i => Hp 2 [none, srB bs, opR (flipS bs fr mask i)]) (fun i => i ≤ 16) (fun i => 16 - i) 0 (Nat.zero_le _) (Wk.sub ⟨rfl, rfl, rfl, rfl, trivial⟩) fun i hi => ?_
 refine ITri.seq ?_
 refine ITri.seq ?_
 refine ITri.reg pok ?_; simp -implicitDefEqProofs (disch := first | decide | exact of_eq_true (eq_true rfl) | omega | assumption) only [ ↓vcD, vcE, ↓vcG, vcF, evs, evP, evB, intsOf, fillC, Value.cells, pt, Value.oneCell', reduceIte, reduceCtorEq, Nat.reduceEqDiff, Nat.reduceAdd, Nat.reduceMul, Nat.reduceLT, Nat.reduceBEq, Nat.reduceLeDiff, Nat.reduceSub]
 refine ITri.condD (by rfl) (fun h2 => ?_) (fun h2 => ?_)
 ·have hi1 : (i : Int) + 1 = ((i + 1 : Nat) : Int) := by omega
  have hfi : (fr : Int) + i = ((fr + i : Nat) : Int) := by omega
  have hmi : mask / 2 ^ i < 65536 := Nat.lt_of_le_of_lt (Nat.div_le_self _ _) hm
  have a1 := shr16 (a := mask) (k := i) (by omega)
  have a2 := and_1 hmi
  refine ITri.skip ?_; simp only [SeqQ_normal, BlkQ_normal]
  refine ITri.seq ?_
  refine ITri.block ?_
  refine ITri.seq ?_
  refine ITri.reg pok ?_; simp -implicitDefEqProofs (disch := first | decide | exact of_eq_true (eq_true rfl) | omega | assumption) only [hfi,  ↓vcD, vcE, ↓vcG, vcF, evs, evP, evB, intsOf, fillC, Value.cells, pt, Value.oneCell', reduceIte, reduceCtorEq, Nat.reduceEqDiff, Nat.reduceAdd, Nat.reduceMul, Nat.reduceLT, Nat.reduceBEq, Nat.reduceLeDiff, Nat.reduceSub]
  refine ITri.seq ?_
  refine ITri.cut (fun _ : Unit => [(1, .int .i64 fr), (2, .int .u16 mask), (7, sO 2 n), (8, .int .i64 i), (9, .int .i64 (fr + i : Nat)), (31, .bool (decide (fr + i < 8 * bs.length ∧ mask / 2 ^ i % 2 = 1)))]) (fun _ => []) (fun _ => Hp 2 [none, srB bs, opR (flipS bs fr mask i)]) (fun _ => True) ?_ (fun _ _ => ?_)
  ·by_cases hk : fr + i < 8 * bs.length
   ·have hk' : ((fr + i : Nat) : Int) < 8 * (n : Int) := by omega
    refine ITri.reg pok ?_; simp -implicitDefEqProofs (disch := first | decide | exact of_eq_true (eq_true rfl) | omega | assumption) only [hk', decide_true, a1, a2,  ↓vcD, vcE, ↓vcG, vcF, evs, evP, evB, intsOf, fillC, Value.cells, pt, Value.oneCell', reduceIte, reduceCtorEq, Nat.reduceEqDiff, Nat.reduceAdd, Nat.reduceMul, Nat.reduceLT, Nat.reduceBEq, Nat.reduceLeDiff, Nat.reduceSub]
    have hv : decide (((mask / 2 ^ i % 2 : Nat) : Int) = 1) = decide (fr + i < 8 * bs.length ∧ mask / 2 ^ i % 2 = 1) := decide_eq_decide.2 ⟨fun h => ⟨hk, by omega⟩, fun h => by have := h.2; omega⟩
    first
     | (rw [hv]; exact CutQ.mk () trivial (Wk.sub ⟨rfl, rfl, rfl, rfl, rfl, rfl, trivial⟩))
     | (rw [← hv]; exact CutQ.mk () trivial (Wk.sub ⟨rfl, rfl, rfl, rfl, rfl, rfl, trivial⟩))
   ·have hk' : ¬ ((fr + i : Nat) : Int) < 8 * (n : Int) := by omega
    have hv : decide (fr + i < 8 * bs.length ∧ mask / 2 ^ i % 2 = 1) = false := decide_eq_false (fun h => hk h.1)
    rw [hv]
    refine ITri.reg pok ?_; simp -implicitDefEqProofs (disch := first | decide | exact of_eq_true (eq_true rfl) | omega | assumption) only [hk', decide_false,  ↓vcD, vcE, ↓vcG, vcF, evs, evP, evB, intsOf, fillC, Value.cells, pt, Value.oneCell', reduceIte, reduceCtorEq, Nat.reduceEqDiff, Nat.reduceAdd, Nat.reduceMul, Nat.reduceLT, Nat.reduceBEq, Nat.reduceLeDiff, Nat.reduceSub]
    exact CutQ.mk () trivial (Wk.sub ⟨rfl, rfl, rfl, rfl, rfl, rfl, trivial⟩)
  refine ITri.cut (fun _ : Unit => [(1, .int .i64 fr), (2, .int .u16 mask), (7, sO 2 n), (8, .int .i64 i)]) (fun _ => []) (fun _ => Hp 2 [none, srB bs, opR (flipS bs fr mask (i + 1))]) (fun _ => True) ?_ (fun _ _ => ?_)
  ·refine ITri.condD (by rfl) (fun h3 => ?_) (fun h3 => ?_)
   ·have hq : (fr + i) / 8 < (flipS bs fr mask i).length := by rw [flipS_len]; omega
    have hg := getB hq
    have hy := flipS_B (fr := fr) (mask := mask) hB i _ (nth_mem hq)
    obtain ⟨y, hyy⟩ := Int.eq_ofNat_of_zero_le hy.1
    rw [hyy] at hg hy
    have hk8 : ((fr + i : Nat) : Int) / 8 = (((fr + i) / 8 : Nat) : Int) := rfl
    have hk9 : ((fr + i : Nat) : Int) % 8 = (((fr + i) % 8 : Nat) : Int) := rfl
    have hq' : (((fr + i) / 8 : Nat) : Int) < n := by rw [flipS_len] at hq; omega
    have b1 := shr128 (k := (fr + i) % 8) (by omega)
    have b2 := xor_u8 (a := y) (b := 128 / 2 ^ ((fr + i) % 8)) (by omega) (pw_lt _)
    have hs : flipS bs fr mask (i + 1) = (flipS bs fr mask i).set ((fr + i) / 8) ((y ^^^ (128 / 2 ^ ((fr + i) % 8)) : Nat) : Int) := by
     rw [flipS, if_pos h3, hyy, Int.toNat_natCast]
    have hw : writeAt (rows eB (flipS bs fr mask i)) ((fr + i) / 8) [.int .u8 ((y ^^^ (128 / 2 ^ ((fr + i) % 8)) : Nat) : Int)] = rows eB (flipS bs fr mask (i + 1)) := by
     have := rows_writef (f := eB) (c := 1) (v := .int .u8 ((y ^^^ (128 / 2 ^ ((fr + i) % 8)) : Nat) : Int)) ((y ^^^ (128 / 2 ^ ((fr + i) % 8)) : Nat) : Int) hq (j := 0) (by decide) rfl
     rw [Nat.mul_one, Nat.add_zero] at this
     rw [this, hs]
    have hlen : (rows eB (flipS bs fr mask i)).length = n := by rw [rows_len, flipS_len, hn, Nat.mul_one]
    have hq2 : (fr + i) / 8 + 1 ≤ n := by omega
    refine ITri.reg pok ?_; simp -implicitDefEqProofs (disch := first | decide | exact of_eq_true (eq_true rfl) | omega | assumption) only [hk8, hk9, hq', hg, Int.toNat_natCast, Nat.mul_one, b1, b2, hw, hlen, hq2,  ↓vcD, vcE, ↓vcG, vcF, evs, evP, evB, intsOf, fillC, Value.cells, pt, Value.oneCell', reduceIte, reduceCtorEq, Nat.reduceEqDiff, Nat.reduceAdd, Nat.reduceMul, Nat.reduceLT, Nat.reduceBEq, Nat.reduceLeDiff, Nat.reduceSub]
    exact CutQ.mk () trivial (Wk.sub ⟨rfl, rfl, rfl, rfl, trivial⟩)
   have hs : flipS bs fr mask (i + 1) = flipS bs fr mask i := by rw [flipS, if_neg h3]
   rw [hs]
   refine ITri.skip ?_
   exact CutQ.mk () trivial (Wk.sub ⟨rfl, rfl, rfl, rfl, trivial⟩)
  refine ITri.reg pok ?_; simp -implicitDefEqProofs (disch := first | decide | exact of_eq_true (eq_true rfl) | omega | assumption) only [hi1,  ↓vcD, vcE, ↓vcG, vcF, evs, evP, evB, intsOf, fillC, Value.cells, pt, Value.oneCell', reduceIte, reduceCtorEq, Nat.reduceEqDiff, Nat.reduceAdd, Nat.reduceMul, Nat.reduceLT, Nat.reduceBEq, Nat.reduceLeDiff, Nat.reduceSub]
  exact LoopQ.next (i + 1) (by omega) (by omega) (Wk.sub ⟨rfl, rfl, rfl, rfl, trivial⟩)
 refine ITri.exit ?_; try simp -implicitDefEqProofs (disch := first | decide | exact of_eq_true (eq_true rfl) | omega | assumption) only [ ↓vcD, vcE, ↓vcG, vcF, evs, evP, evB, intsOf, fillC, Value.cells, pt, Value.oneCell', reduceIte, reduceCtorEq, Nat.reduceEqDiff, Nat.reduceAdd, Nat.reduceMul, Nat.reduceLT, Nat.reduceBEq, Nat.reduceLeDiff, Nat.reduceSub]
 obtain rfl : i = 16 := by omega
 refine ITri.seq ?_
 refine ITri.reg pok ?_; simp -implicitDefEqProofs (disch := first | decide | exact of_eq_true (eq_true rfl) | omega | assumption) only [ ↓vcD, vcE, ↓vcG, vcF, evs, evP, evB, intsOf, fillC, Value.cells, pt, Value.oneCell', reduceIte, reduceCtorEq, Nat.reduceEqDiff, Nat.reduceAdd, Nat.reduceMul, Nat.reduceLT, Nat.reduceBEq, Nat.reduceLeDiff, Nat.reduceSub]
 refine ITri.ret ?_
 exact end_mk (k := 2) (mk := fun s => s) mvI (by decide) (rows_no (f := eB) _) rfl (resF_tmp rfl resF_nil) rfl
end Go.Proofs.YtgjokhodccacoaaDoor
