/-
  Chapter 6: PutNumber, PutSigned and the reference's; the law RecordPuts, by names.
-/
import Derived.Test.YtgjokhodccacoaaDoorSRecP1
set_option linter.unusedSimpArgs false
set_option linter.unusedVariables false
namespace Go.Vm
open Go Go.RowKit
/-- Where a row's first bytes make a string. -/
theorem gen_strT {P : Program} {w : Bool} {t d el : TypeId} {s k n c sz : Nat} {l : Fr} {h : AH} {K : Value → AH → Prop} {op : Bool} {cs xs : List Int} (hm : memConv t d = true) (hu : P.underlying t = some (.slice el)) (he : P.underlying el = some (.int .u8)) (hd : P.underlying d = some .string) (hl : lk l s = some (.slice (some ⟨k, 0, none⟩) n c)) (hn : n ≤ cs.length) (hx : cs.take n = xs) (hg : h.get k = some (.cells ⟨rows (fun x : Int => [Value.int .u8 x]) cs, sz, op⟩)) (q : K (aStr xs) h) :
    iStep P w (.gen (.convert t d (.tmp s))) l h K := by
  subst hx
  refine ⟨_, _, ?_, q⟩
  have e1 : aEnv (trOf l) (.tmp s) = some (.slice (some ⟨k, 0, none⟩) n c) := by simp only [aEnv, trOf_get, hl]
  have key : ∀ ys : List Int, rows (fun x : Int => [Value.int .u8 x]) ys = ys.map fun x => Value.int .u8 x := by
    intro ys
    induction ys with
    | nil => rfl
    | cons x r ih => show Value.int .u8 x :: rows _ r = _; rw [ih]; rfl
  have e2 : aFirst h 1 n (.slice (some ⟨k, 0, none⟩) n c) = some (rows (fun x : Int => [Value.int .u8 x]) (cs.take n)) := by
    show (if n * 1 = 0 then some [] else _) = _
    rw [Nat.mul_one]
    by_cases h0 : n = 0
    · subst h0
      rfl
    · rw [if_neg h0]
      simp only [hg, Nat.zero_add, List.drop_zero, key, List.length_map]
      rw [if_pos hn, List.map_take]
  have e3 : noAddr (.slice (some ⟨k, 0, none⟩) n c) = false := rfl
  simp only [aOp, e1, e3, Bool.false_eq_true, if_false, hm, if_true, aToStr, hu, hd, he, e2, bytesL_rows]
/-- A contract on no rows, in any memory. -/
theorem Fc.liftN {P : Program} {f : Nat} {args : List Value} {os : List Ns1} {mkv : List Value → Value}
    (F : Fc P f args (Hp 1 [none]) (mkv (newsAt 1 os)) (Hp 1 ([none] ++ (nsO os).map some))) (ha : noAddrL args = true) (hmv : MkV mkv) (hos : ∀ o ∈ os, noAddrL o.2.1 = true) {h : AH} (h0 : h.sees 0 = true) :
    Fc P f args h (mkv (newsAt h.next os)) (h.news (nsO os)) := by
  have := Fc.liftP (cs := []) (ps := []) (caps := []) (os := os) (mk := fun ss => args ++ ss ++ []) (mkv := mkv) (by
    show Fc P f (args ++ slicesAt 1 [] [] ++ []) _ _ _
    simp only [slicesAt, List.append_nil]
    exact F) (MkL.mid ha rfl) hmv (fun p hp => by cases hp) hos h0 trivial
  simp only [placesV, List.append_nil] at this
  exact this
end Go.Vm
namespace Go.Proofs.YtgjokhodccacoaaDoor
open Go.RowKit Go.Vm
set_option maxRecDepth 100000
def okC (ok : Bool) (gs : List Int) : List Int := if ok then gs ++ List.replicate (64 - gs.length) 0 else []
def okG (ok : Bool) (gs : List Int) : List Int := if ok then gs else []
def okE (ok : Bool) : Int := if ok then 0 else 3
def okP (n : Int) : Bool := decide (0 ≤ n ∧ n ≤ 1000000000000000)
def okZ (n : Int) : Bool := decide (-1000000000000000 ≤ n ∧ n ≤ 1000000000000000)
/-- A signed number as one that has no sign. -/
def zz (n : Int) : Nat := if n < 0 then (-2 * n - 1).toNat else (2 * n).toNat
theorem mvP (e : Int) : MvV fun s => .tuple #[s, .int .i64 e] := ⟨fun _ _ _ => rfl, fun _ _ _ h => ⟨h, trivial, trivial⟩⟩
theorem groups_len {N : Nat} (h : N < 9223372036854775808) : (groups N).length ≤ 9 ∧ 0 < (groups N).length := by
  have key : ∀ k m acc, m ≤ k → GrJ N (m, acc) → (groups N).length ≤ 9 ∧ 0 < (groups N).length := by
    intro k
    induction k with
    | zero =>
      intro m acc hk J
      obtain rfl : m = 0 := by omega
      have := gr_end J
      obtain ⟨j1, j2, j3, _⟩ := J
      rw [← this]
      exact ⟨j2, j3⟩
    | succ k ih =>
      intro m acc hk J
      by_cases h0 : m = 0
      · subst h0
        have := gr_end J
        obtain ⟨j1, j2, j3, _⟩ := J
        rw [← this]
        exact ⟨j2, j3⟩
      · exact ih _ _ (by omega) (gr_step J h0).1
  exact key _ _ _ (Nat.le_refl _) (gr_begin h)
theorem not_neg {m : Nat} (h : m < 4611686018427387904) : pureRun Tryd.prog (Op.unary .xor (.int .i64 (-(m : Int) - 1))) = some (.int .i64 m) := by
  have e : IntKind.i64.wrap (((BitVec.ofInt 64 (-1)) ^^^ (BitVec.ofInt 64 (-(m : Int) - 1))).toNat : Nat) = (m : Int) := by
    rw [show BitVec.ofInt 64 (-1) = BitVec.allOnes 64 from rfl, BitVec.allOnes_xor, BitVec.toNat_not, BitVec.toNat_ofInt, IntKind.wrap_i64]
    omega
  show pureRun Tryd.prog (pure (Value.int .i64 (IntKind.i64.wrap (((BitVec.ofInt 64 (-1)) ^^^ (BitVec.ofInt 64 (-(m : Int) - 1))).toNat : Nat)))) = _
  rw [e, pureRun_pure]
theorem gen_notN {w : Bool} {t s : Nat} {l : Fr} {h : AH} {K : Value → AH → Prop} {m : Nat} (hl : lk l s = some (.int .i64 (-(m : Int) - 1))) (h1 : m < 4611686018427387904) (q : K (.int .i64 m) h) : iStep Tryd.prog w (.gen (.unOp .xor t (.tmp s))) l h K := by
  refine ⟨_, _, ?_, q⟩
  have e1 : aEnv (trOf l) (.tmp s) = some (.int .i64 (-(m : Int) - 1)) := by simp only [aEnv, trOf_get, hl]
  simp only [aOp, e1, not_neg h1]
  rfl
theorem bt_or1 {m : Nat} (h : m < 4611686018427387904) : btI .or .i64 ((m : Int) * 2) 1 = ((2 * m + 1 : Nat) : Int) := by
  show IntKind.i64.wrap _ = _
  rw [show IntKind.i64.bits = 64 from rfl, show (1 : Int) = ((1 : Nat) : Int) from rfl, show (m : Int) * 2 = ((2 ^ 1 * m : Nat) : Int) by omega, BitVec.ofInt_natCast, BitVec.ofInt_natCast, BitVec.toNat_or, BitVec.toNat_ofNat, BitVec.toNat_ofNat, Nat.mod_eq_of_lt (by omega), Nat.mod_eq_of_lt (by omega), ← Nat.two_pow_add_eq_or_of_lt (by omega : 1 < 2 ^ 1) m, wrap_nat (by omega)]
/- (*boule/record.writer).signed · slots 15 · names 0:w 1:n 2:w 3:n · results [] -/
def ir93_r0 : IC := .reg [⟨some 4, none, false, .mv (.t 1)⟩,
  ⟨some 5, none, false, .cmp .lss (.t 4) (.k (.int .i64 0))⟩] (some [0, 1, 5])
def ir93_r1 : IC := .reg [⟨some 6, none, false, .mv (.t 1)⟩,
  ⟨some 7, none, false, .gen (.unOp .xor 3 (.tmp 6))⟩,
  ⟨some 8, none, false, .shf .shl (.t 7) (.k (.int .u64 1))⟩,
  ⟨some 9, none, false, .bits .or (.t 8) (.k (.int .i64 1))⟩,
  ⟨some 1, none, false, .mv (.t 9)⟩] (some [0, 1])
def ir93_r2 : IC := .reg [⟨some 10, none, false, .mv (.t 1)⟩,
  ⟨some 11, none, false, .shf .shl (.t 10) (.k (.int .u64 1))⟩,
  ⟨some 1, none, false, .mv (.t 11)⟩] (some [0, 1])
def ir93_1 : IC := .cond (.t 5) ir93_r1 ir93_r2
def ir93_2 : IC := .seq ir93_r0 ir93_1
def ir93_r3 : IC := .reg [⟨some 12, none, false, .mv (.t 0)⟩,
  ⟨some 13, none, false, .mv (.t 1)⟩,
  ⟨some 14, none, false, .call (.f 75) [(.t 12), (.t 13)]⟩] (some [])
def ir93_3 : IC := .seq ir93_2 ir93_r3
def ir93 : IC := ir93_3
theorem fn93 : FnIs Tryd.prog 93 ir93 15 [] := ⟨Tryd.f93, Tryd.f93.body.getD .skip, Tryd.func93, by kernel_rfl, by kernel_rfl, by kernel_rfl, by kernel_rfl⟩
/- boule/record.PutNumber · slots 15 · names 0:n 1:n 4:w · results [2, 3] -/
def ir48_r0 : IC := .reg [⟨some 2, none, false, .mv (.k (.slice none 0 0))⟩,
  ⟨some 3, none, false, .mv (.k (.int .i64 0))⟩] (some [0])
def ir48_r1 : IC := .reg [⟨some 5, none, false, .mv (.t 0)⟩,
  ⟨some 6, none, false, .cmp .lss (.t 5) (.k (.int .i64 0))⟩,
  ⟨some 7, none, false, .mv (.t 6)⟩,
  ⟨some 8, some (7, false), false, .mv (.t 0)⟩,
  ⟨some 9, some (7, false), false, .cmp .gtr (.t 8) (.k (.int .i64 1000000000000000))⟩,
  ⟨some 10, none, false, .pick (.t 7) (.k (.bool true)) (.t 9)⟩] (some [0, 10])
def ir48_r2 : IC := .reg [⟨some 2, none, false, .mv (.k (.slice none 0 0))⟩,
  ⟨some 3, none, false, .mv (.k (.int .i64 3))⟩] (some [2, 3])
def ir48_1 : IC := .seq ir48_r2 .ret
def ir48_2 : IC := .cond (.t 10) ir48_1 .skip
def ir48_3 : IC := .seq ir48_r1 ir48_2
def ir48_r3 : IC := .reg [⟨some 4, none, false, .alloc [(.slice none 0 0), (.int .i64 0), (.int .i8 0)]⟩] (some [0, 4])
def ir48_r4 : IC := .reg [⟨some 11, none, false, .mv (.t 0)⟩,
  ⟨some 12, none, false, .call (.f 75) [(.t 4), (.t 11)]⟩] (some [4])
def ir48_r5 : IC := .reg [⟨some 13, none, false, .fad 0 (.t 4)⟩,
  ⟨some 14, none, false, .call (.f 63) [(.t 13)]⟩,
  ⟨some 2, none, false, .mv (.t 14)⟩,
  ⟨some 3, none, false, .mv (.k (.int .i64 0))⟩] (some [2, 3])
def ir48_4 : IC := .seq ir48_r5 .ret
def ir48_5 : IC := .seq ir48_r4 ir48_4
def ir48_6 : IC := .seq ir48_r3 ir48_5
def ir48_7 : IC := .seq ir48_3 ir48_6
def ir48_8 : IC := .seq ir48_r0 ir48_7
def ir48 : IC := ir48_8
theorem fn48 : FnIs Tryd.prog 48 ir48 15 [.tmp 2, .tmp 3] := ⟨Tryd.f48, Tryd.f48.body.getD .skip, Tryd.func48, by kernel_rfl, by kernel_rfl, by kernel_rfl, by kernel_rfl⟩
/- boule/record.PutSigned · slots 15 · names 0:n 1:n 4:w · results [2, 3] -/
def ir49_r0 : IC := .reg [⟨some 2, none, false, .mv (.k (.slice none 0 0))⟩,
  ⟨some 3, none, false, .mv (.k (.int .i64 0))⟩] (some [0])
def ir49_r1 : IC := .reg [⟨some 5, none, false, .mv (.t 0)⟩,
  ⟨some 6, none, false, .cmp .lss (.t 5) (.k (.int .i64 (-1000000000000000)))⟩,
  ⟨some 7, none, false, .mv (.t 6)⟩,
  ⟨some 8, some (7, false), false, .mv (.t 0)⟩,
  ⟨some 9, some (7, false), false, .cmp .gtr (.t 8) (.k (.int .i64 1000000000000000))⟩,
  ⟨some 10, none, false, .pick (.t 7) (.k (.bool true)) (.t 9)⟩] (some [0, 10])
def ir49_r2 : IC := .reg [⟨some 2, none, false, .mv (.k (.slice none 0 0))⟩,
  ⟨some 3, none, false, .mv (.k (.int .i64 3))⟩] (some [2, 3])
def ir49_1 : IC := .seq ir49_r2 .ret
def ir49_2 : IC := .cond (.t 10) ir49_1 .skip
def ir49_3 : IC := .seq ir49_r1 ir49_2
def ir49_r3 : IC := .reg [⟨some 4, none, false, .alloc [(.slice none 0 0), (.int .i64 0), (.int .i8 0)]⟩] (some [0, 4])
def ir49_r4 : IC := .reg [⟨some 11, none, false, .mv (.t 0)⟩,
  ⟨some 12, none, false, .call (.f 93) [(.t 4), (.t 11)]⟩] (some [4])
def ir49_r5 : IC := .reg [⟨some 13, none, false, .fad 0 (.t 4)⟩,
  ⟨some 14, none, false, .call (.f 63) [(.t 13)]⟩,
  ⟨some 2, none, false, .mv (.t 14)⟩,
  ⟨some 3, none, false, .mv (.k (.int .i64 0))⟩] (some [2, 3])
def ir49_4 : IC := .seq ir49_r5 .ret
def ir49_5 : IC := .seq ir49_r4 ir49_4
def ir49_6 : IC := .seq ir49_r3 ir49_5
def ir49_7 : IC := .seq ir49_3 ir49_6
def ir49_8 : IC := .seq ir49_r0 ir49_7
def ir49 : IC := ir49_8
theorem fn49 : FnIs Tryd.prog 49 ir49 15 [.tmp 2, .tmp 3] := ⟨Tryd.f49, Tryd.f49.body.getD .skip, Tryd.func49, by kernel_rfl, by kernel_rfl, by kernel_rfl, by kernel_rfl⟩
/- boule/bouleref06.Groups · slots 22 · names 0:n 1:n 3:out · results [2] -/
def ir92_r0 : IC := .reg [⟨some 2, none, false, .mv (.k (.slice none 0 0))⟩] (some [0])
def ir92_r1 : IC := .reg [⟨some 4, none, false, .mv (.t 0)⟩,
  ⟨some 5, none, false, .div .rem (.t 4) (.k (.int .i64 128))⟩,
  ⟨some 6, none, false, .conv .u8 (.t 5)⟩,
  ⟨some 7, none, false, .bsl 1 1 [(.int .u8 0)] [(0, (.t 6))]⟩,
  ⟨some 3, none, false, .mv (.t 7)⟩] (some [0, 3])
def ir92_r2 : IC := .reg [⟨some 8, none, false, .mv (.t 0)⟩,
  ⟨some 9, none, false, .div .quo (.t 8) (.k (.int .i64 128))⟩,
  ⟨some 0, none, false, .mv (.t 9)⟩] (some [0, 3])
def ir92_r3 : IC := .reg [⟨some 10, none, false, .mv (.t 0)⟩,
  ⟨some 11, none, false, .cmp .gtr (.t 10) (.k (.int .i64 0))⟩] (some [0, 3, 11])
def ir92_1 : IC := .cond (.t 11) .skip (.exit 0)
def ir92_2 : IC := .seq ir92_r3 ir92_1
def ir92_r5 : IC := .reg [⟨some 14, none, false, .mv (.t 0)⟩,
  ⟨some 15, none, false, .div .rem (.t 14) (.k (.int .i64 128))⟩,
  ⟨some 16, none, false, .ar .add (.k (.int .i64 128)) (.t 15)⟩,
  ⟨some 17, none, false, .conv .u8 (.t 16)⟩,
  ⟨some 18, none, false, .bsl 1 1 [(.int .u8 0)] [(0, (.t 17))]⟩,
  ⟨some 19, none, false, .mv (.t 3)⟩,
  ⟨some 20, none, false, .app 1 1 (.t 18) (.t 19)⟩,
  ⟨some 3, none, false, .mv (.t 20)⟩] (some [0, 3])
def ir92_3 : IC := .block 1 ir92_r5
def ir92_r4 : IC := .reg [⟨some 12, none, false, .mv (.t 0)⟩,
  ⟨some 13, none, false, .div .quo (.t 12) (.k (.int .i64 128))⟩,
  ⟨some 0, none, false, .mv (.t 13)⟩] (some [0, 3])
def ir92_4 : IC := .seq ir92_3 ir92_r4
def ir92_5 : IC := .seq ir92_2 ir92_4
def ir92_6 : IC := .loop ir92_5
def ir92_7 : IC := .block 0 ir92_6
def ir92_8 : IC := .seq ir92_r2 ir92_7
def ir92_r6 : IC := .reg [⟨some 21, none, false, .mv (.t 3)⟩,
  ⟨some 2, none, false, .mv (.t 21)⟩] (some [2])
def ir92_9 : IC := .seq ir92_r6 .ret
def ir92_10 : IC := .seq ir92_8 ir92_9
def ir92_11 : IC := .seq ir92_r1 ir92_10
def ir92_12 : IC := .seq ir92_r0 ir92_11
def ir92 : IC := ir92_12
theorem fn92 : FnIs Tryd.prog 92 ir92 22 [.tmp 2] := ⟨Tryd.f92, Tryd.f92.body.getD .skip, Tryd.func92, by kernel_rfl, by kernel_rfl, by kernel_rfl, by kernel_rfl⟩
/- boule/bouleref06.Twice · slots 10 · names 0:n 1:n · results [2] -/
def ir94_r0 : IC := .reg [⟨some 2, none, false, .mv (.k (.int .i64 0))⟩] (some [0])
def ir94_r1 : IC := .reg [⟨some 3, none, false, .mv (.t 0)⟩,
  ⟨some 4, none, false, .cmp .lss (.t 3) (.k (.int .i64 0))⟩] (some [0, 4])
def ir94_r2 : IC := .reg [⟨some 5, none, false, .mv (.t 0)⟩,
  ⟨some 6, none, false, .ar .mul (.k (.int .i64 (-2))) (.t 5)⟩,
  ⟨some 7, none, false, .ar .sub (.t 6) (.k (.int .i64 1))⟩,
  ⟨some 2, none, false, .mv (.t 7)⟩] (some [2])
def ir94_1 : IC := .seq ir94_r2 .ret
def ir94_2 : IC := .cond (.t 4) ir94_1 .skip
def ir94_3 : IC := .seq ir94_r1 ir94_2
def ir94_r3 : IC := .reg [⟨some 8, none, false, .mv (.t 0)⟩,
  ⟨some 9, none, false, .ar .mul (.k (.int .i64 2)) (.t 8)⟩,
  ⟨some 2, none, false, .mv (.t 9)⟩] (some [2])
def ir94_4 : IC := .seq ir94_r3 .ret
def ir94_5 : IC := .seq ir94_3 ir94_4
def ir94_6 : IC := .seq ir94_r0 ir94_5
def ir94 : IC := ir94_6
theorem fn94 : FnIs Tryd.prog 94 ir94 10 [.tmp 2] := ⟨Tryd.f94, Tryd.f94.body.getD .skip, Tryd.func94, by kernel_rfl, by kernel_rfl, by kernel_rfl, by kernel_rfl⟩
/- boule/bouleref06.PutNumber · slots 12 · names 0:n 1:n · results [2, 3] -/
def ir50_r0 : IC := .reg [⟨some 2, none, false, .mv (.k (.slice none 0 0))⟩,
  ⟨some 3, none, false, .mv (.k (.int .i64 0))⟩] (some [0])
def ir50_r1 : IC := .reg [⟨some 4, none, false, .mv (.t 0)⟩,
  ⟨some 5, none, false, .cmp .lss (.t 4) (.k (.int .i64 0))⟩,
  ⟨some 6, none, false, .mv (.t 5)⟩,
  ⟨some 7, some (6, false), false, .mv (.t 0)⟩,
  ⟨some 8, some (6, false), false, .cmp .gtr (.t 7) (.k (.int .i64 1000000000000000))⟩,
  ⟨some 9, none, false, .pick (.t 6) (.k (.bool true)) (.t 8)⟩] (some [0, 9])
def ir50_r2 : IC := .reg [⟨some 2, none, false, .mv (.k (.slice none 0 0))⟩,
  ⟨some 3, none, false, .mv (.k (.int .i64 3))⟩] (some [2, 3])
def ir50_1 : IC := .seq ir50_r2 .ret
def ir50_2 : IC := .cond (.t 9) ir50_1 .skip
def ir50_3 : IC := .seq ir50_r1 ir50_2
def ir50_r3 : IC := .reg [⟨some 10, none, false, .mv (.t 0)⟩,
  ⟨some 11, none, false, .call (.f 92) [(.t 10)]⟩,
  ⟨some 2, none, false, .mv (.t 11)⟩,
  ⟨some 3, none, false, .mv (.k (.int .i64 0))⟩] (some [2, 3])
def ir50_4 : IC := .seq ir50_r3 .ret
def ir50_5 : IC := .seq ir50_3 ir50_4
def ir50_6 : IC := .seq ir50_r0 ir50_5
def ir50 : IC := ir50_6
theorem fn50 : FnIs Tryd.prog 50 ir50 12 [.tmp 2, .tmp 3] := ⟨Tryd.f50, Tryd.f50.body.getD .skip, Tryd.func50, by kernel_rfl, by kernel_rfl, by kernel_rfl, by kernel_rfl⟩
/- boule/bouleref06.PutSigned · slots 13 · names 0:n 1:n · results [2, 3] -/
def ir51_r0 : IC := .reg [⟨some 2, none, false, .mv (.k (.slice none 0 0))⟩,
  ⟨some 3, none, false, .mv (.k (.int .i64 0))⟩] (some [0])
def ir51_r1 : IC := .reg [⟨some 4, none, false, .mv (.t 0)⟩,
  ⟨some 5, none, false, .cmp .lss (.t 4) (.k (.int .i64 (-1000000000000000)))⟩,
  ⟨some 6, none, false, .mv (.t 5)⟩,
  ⟨some 7, some (6, false), false, .mv (.t 0)⟩,
  ⟨some 8, some (6, false), false, .cmp .gtr (.t 7) (.k (.int .i64 1000000000000000))⟩,
  ⟨some 9, none, false, .pick (.t 6) (.k (.bool true)) (.t 8)⟩] (some [0, 9])
def ir51_r2 : IC := .reg [⟨some 2, none, false, .mv (.k (.slice none 0 0))⟩,
  ⟨some 3, none, false, .mv (.k (.int .i64 3))⟩] (some [2, 3])
def ir51_1 : IC := .seq ir51_r2 .ret
def ir51_2 : IC := .cond (.t 9) ir51_1 .skip
def ir51_3 : IC := .seq ir51_r1 ir51_2
def ir51_r3 : IC := .reg [⟨some 10, none, false, .mv (.t 0)⟩,
  ⟨some 11, none, false, .call (.f 94) [(.t 10)]⟩,
  ⟨some 12, none, false, .call (.f 92) [(.t 11)]⟩,
  ⟨some 2, none, false, .mv (.t 12)⟩,
  ⟨some 3, none, false, .mv (.k (.int .i64 0))⟩] (some [2, 3])
def ir51_4 : IC := .seq ir51_r3 .ret
def ir51_5 : IC := .seq ir51_3 ir51_4
def ir51_6 : IC := .seq ir51_r0 ir51_5
def ir51 : IC := ir51_6
theorem fn51 : FnIs Tryd.prog 51 ir51 13 [.tmp 2, .tmp 3] := ⟨Tryd.f51, Tryd.f51.body.getD .skip, Tryd.func51, by kernel_rfl, by kernel_rfl, by kernel_rfl, by kernel_rfl⟩
theorem signed_b {n : Int} (h : -1000000000000000 ≤ n ∧ n ≤ 1000000000000000) :
    Fc Tryd.prog 93 [pt 1, .int .i64 n] (Hp 1 [none, bufE]) (.tuple #[]) (Hp 1 [none, bufO (.slice (some ⟨3, 0, none⟩) (groups (zz n)).length 64), arB (List.replicate (9 - (groups (zz n)).length) 0 ++ groups (zz n)), arB (groups (zz n) ++ List.replicate (64 - (groups (zz n)).length) 0)]) := by
  refine Fc.introX fn93 (by simp) (fun _ => grow_hq (by simp) (by rfl)) ?_; simp only [argF]
  refine ITri.seq ?_
  refine ITri.seq ?_
  by_cases g1 : n < 0
  · obtain ⟨m, hm⟩ := Int.eq_ofNat_of_zero_le (show 0 ≤ -n - 1 by omega)
    obtain rfl : n = -(m : Int) - 1 := by omega
    have hz : zz (-(m : Int) - 1) = 2 * m + 1 := by unfold zz; rw [if_pos g1]; omega
    have a1 := shl1 (a := (m : Int)) (by omega) (by omega)
    have a2 := bt_or1 (m := m) (by omega)
    rw [hz]
    refine ITri.reg pok ?_; simp -implicitDefEqProofs (disch := first | decide | exact of_eq_true (eq_true rfl) | omega | assumption) only [g1, decide_true,  ↓vcD, vcE, ↓vcG, vcF, evs, evP, evB, intsOf, fillC, Value.cells, pt, Value.oneCell', reduceIte, reduceCtorEq, Nat.reduceEqDiff, Nat.reduceAdd, Nat.reduceMul, Nat.reduceLT, Nat.reduceBEq, Nat.reduceLeDiff, Nat.reduceSub] -- r0
    refine ITri.cond (v := true) rfl (fun _ => ?_) (fun h => by cases h)
    refine ITri.reg pok ?_; simp -implicitDefEqProofs (disch := first | decide | exact of_eq_true (eq_true rfl) | omega | assumption) only [ ↓vcD, vcE, ↓vcG, vcF, evs, evP, evB, intsOf, fillC, Value.cells, pt, Value.oneCell', reduceIte, reduceCtorEq, Nat.reduceEqDiff, Nat.reduceAdd, Nat.reduceMul, Nat.reduceLT, Nat.reduceBEq, Nat.reduceLeDiff, Nat.reduceSub] -- r1
    refine gen_notN rfl (by omega) ?_
    simp -implicitDefEqProofs (disch := first | decide | exact of_eq_true (eq_true rfl) | omega | assumption) only [a1, a2,  ↓vcD, vcE, ↓vcG, vcF, evs, evP, evB, intsOf, fillC, Value.cells, pt, Value.oneCell', reduceIte, reduceCtorEq, Nat.reduceEqDiff, Nat.reduceAdd, Nat.reduceMul, Nat.reduceLT, Nat.reduceBEq, Nat.reduceLeDiff, Nat.reduceSub]
    refine ITri.reg pok ?_; simp -implicitDefEqProofs (disch := first | decide | exact of_eq_true (eq_true rfl) | omega | assumption) only [ ↓vcD, vcE, ↓vcG, vcF, evs, evP, evB, intsOf, fillC, Value.cells, pt, Value.oneCell', reduceIte, reduceCtorEq, Nat.reduceEqDiff, Nat.reduceAdd, Nat.reduceMul, Nat.reduceLT, Nat.reduceBEq, Nat.reduceLeDiff, Nat.reduceSub] -- r3
    refine ⟨_, _, number_b (by omega), ?_⟩
    try simp -implicitDefEqProofs (disch := first | decide | exact of_eq_true (eq_true rfl) | omega | assumption) only [ ↓vcD, vcE, ↓vcG, vcF, evs, evP, evB, intsOf, fillC, Value.cells, pt, Value.oneCell', reduceIte, reduceCtorEq, Nat.reduceEqDiff, Nat.reduceAdd, Nat.reduceMul, Nat.reduceLT, Nat.reduceBEq, Nat.reduceLeDiff, Nat.reduceSub]
    exact EndX.mk (by simp) resF_nil rfl rfl
  obtain ⟨N, rfl⟩ := Int.eq_ofNat_of_zero_le (show 0 ≤ n by omega)
  have hz : zz (N : Int) = 2 * N := by unfold zz; rw [if_neg g1]; omega
  have a1 := shl1 (a := (N : Int)) (by omega) (by omega)
  have a2 : (N : Int) * 2 = ((2 * N : Nat) : Int) := by omega
  rw [hz]
  refine ITri.reg pok ?_; simp -implicitDefEqProofs (disch := first | decide | exact of_eq_true (eq_true rfl) | omega | assumption) only [g1, decide_false,  ↓vcD, vcE, ↓vcG, vcF, evs, evP, evB, intsOf, fillC, Value.cells, pt, Value.oneCell', reduceIte, reduceCtorEq, Nat.reduceEqDiff, Nat.reduceAdd, Nat.reduceMul, Nat.reduceLT, Nat.reduceBEq, Nat.reduceLeDiff, Nat.reduceSub] -- r0
  refine ITri.cond (v := false) rfl (fun h => by cases h) (fun _ => ?_)
  refine ITri.reg pok ?_; simp -implicitDefEqProofs (disch := first | decide | exact of_eq_true (eq_true rfl) | omega | assumption) only [a1, a2,  ↓vcD, vcE, ↓vcG, vcF, evs, evP, evB, intsOf, fillC, Value.cells, pt, Value.oneCell', reduceIte, reduceCtorEq, Nat.reduceEqDiff, Nat.reduceAdd, Nat.reduceMul, Nat.reduceLT, Nat.reduceBEq, Nat.reduceLeDiff, Nat.reduceSub] -- r2
  refine ITri.reg pok ?_; simp -implicitDefEqProofs (disch := first | decide | exact of_eq_true (eq_true rfl) | omega | assumption) only [ ↓vcD, vcE, ↓vcG, vcF, evs, evP, evB, intsOf, fillC, Value.cells, pt, Value.oneCell', reduceIte, reduceCtorEq, Nat.reduceEqDiff, Nat.reduceAdd, Nat.reduceMul, Nat.reduceLT, Nat.reduceBEq, Nat.reduceLeDiff, Nat.reduceSub] -- r3
  refine ⟨_, _, number_b (by omega), ?_⟩
  try simp -implicitDefEqProofs (disch := first | decide | exact of_eq_true (eq_true rfl) | omega | assumption) only [ ↓vcD, vcE, ↓vcG, vcF, evs, evP, evB, intsOf, fillC, Value.cells, pt, Value.oneCell', reduceIte, reduceCtorEq, Nat.reduceEqDiff, Nat.reduceAdd, Nat.reduceMul, Nat.reduceLT, Nat.reduceBEq, Nat.reduceLeDiff, Nat.reduceSub]
  exact EndX.mk (by simp) resF_nil rfl rfl
theorem putn_c (n : Int) : Fc Tryd.prog 48 [.int .i64 n] (Hp 1 [none]) (.tuple #[sO 1 (okG (okP n) (groups n.toNat)).length, .int .i64 (okE (okP n))]) ((Hp 1 [none]).news [.cells ⟨rows eB (okC (okP n) (groups n.toNat)), 1, true⟩]) := by
  refine Fc.introR fn48 (by simp) rfl rfl ?_; simp only [argF]
  refine ITri.seq ?_
  refine ITri.reg pok ?_; simp -implicitDefEqProofs (disch := first | decide | exact of_eq_true (eq_true rfl) | omega | assumption) only [ ↓vcD, vcE, ↓vcG, vcF, evs, evP, evB, intsOf, fillC, Value.cells, pt, Value.oneCell', reduceIte, reduceCtorEq, Nat.reduceEqDiff, Nat.reduceAdd, Nat.reduceMul, Nat.reduceLT, Nat.reduceBEq, Nat.reduceLeDiff, Nat.reduceSub] -- r0
  refine ITri.seq ?_
  refine ITri.seq ?_
  by_cases g1 : n < 0
  · have e : okP n = false := by unfold okP; rw [decide_eq_false (by omega)]
    rw [e]
    refine ITri.reg pok ?_; simp -implicitDefEqProofs (disch := first | decide | exact of_eq_true (eq_true rfl) | omega | assumption) only [g1, decide_true,  ↓vcD, vcE, ↓vcG, vcF, evs, evP, evB, intsOf, fillC, Value.cells, pt, Value.oneCell', reduceIte, reduceCtorEq, Nat.reduceEqDiff, Nat.reduceAdd, Nat.reduceMul, Nat.reduceLT, Nat.reduceBEq, Nat.reduceLeDiff, Nat.reduceSub] -- r1
    refine ITri.cond (v := true) rfl (fun _ => ?_) (fun h => by cases h)
    refine ITri.seq ?_
    refine ITri.reg pok ?_; simp -implicitDefEqProofs (disch := first | decide | exact of_eq_true (eq_true rfl) | omega | assumption) only [ ↓vcD, vcE, ↓vcG, vcF, evs, evP, evB, intsOf, fillC, Value.cells, pt, Value.oneCell', reduceIte, reduceCtorEq, Nat.reduceEqDiff, Nat.reduceAdd, Nat.reduceMul, Nat.reduceLT, Nat.reduceBEq, Nat.reduceLeDiff, Nat.reduceSub]
    refine ITri.ret ?_
    exact end_nil (mk := fun s => .tuple #[s, .int .i64 3]) (mvP 3) (resF_tmp rfl (resF_tmp rfl resF_nil)) rfl
  by_cases g2 : 1000000000000000 < n
  · have e : okP n = false := by unfold okP; rw [decide_eq_false (by omega)]
    rw [e]
    refine ITri.reg pok ?_; simp -implicitDefEqProofs (disch := first | decide | exact of_eq_true (eq_true rfl) | omega | assumption) only [g1, g2, decide_true, decide_false,  ↓vcD, vcE, ↓vcG, vcF, evs, evP, evB, intsOf, fillC, Value.cells, pt, Value.oneCell', reduceIte, reduceCtorEq, Nat.reduceEqDiff, Nat.reduceAdd, Nat.reduceMul, Nat.reduceLT, Nat.reduceBEq, Nat.reduceLeDiff, Nat.reduceSub] -- r1
    refine ITri.cond (v := true) rfl (fun _ => ?_) (fun h => by cases h)
    refine ITri.seq ?_
    refine ITri.reg pok ?_; simp -implicitDefEqProofs (disch := first | decide | exact of_eq_true (eq_true rfl) | omega | assumption) only [ ↓vcD, vcE, ↓vcG, vcF, evs, evP, evB, intsOf, fillC, Value.cells, pt, Value.oneCell', reduceIte, reduceCtorEq, Nat.reduceEqDiff, Nat.reduceAdd, Nat.reduceMul, Nat.reduceLT, Nat.reduceBEq, Nat.reduceLeDiff, Nat.reduceSub]
    refine ITri.ret ?_
    exact end_nil (mk := fun s => .tuple #[s, .int .i64 3]) (mvP 3) (resF_tmp rfl (resF_tmp rfl resF_nil)) rfl
  have e : okP n = true := by unfold okP; rw [decide_eq_true (by omega)]
  rw [e]
  obtain ⟨N, rfl⟩ := Int.eq_ofNat_of_zero_le (show 0 ≤ n by omega)
  rw [Int.toNat_natCast]
  obtain ⟨b1, b2⟩ := groups_len (N := N) (by omega)
  refine ITri.reg pok ?_; simp -implicitDefEqProofs (disch := first | decide | exact of_eq_true (eq_true rfl) | omega | assumption) only [g1, g2, decide_false,  ↓vcD, vcE, ↓vcG, vcF, evs, evP, evB, intsOf, fillC, Value.cells, pt, Value.oneCell', reduceIte, reduceCtorEq, Nat.reduceEqDiff, Nat.reduceAdd, Nat.reduceMul, Nat.reduceLT, Nat.reduceBEq, Nat.reduceLeDiff, Nat.reduceSub] -- r1
  refine ITri.cond (v := false) rfl (fun h => by cases h) (fun _ => ?_); refine ITri.skip ?_; simp only [SeqQ_normal, BlkQ_normal]
  refine ITri.seq ?_
  refine ITri.reg pok ?_; simp -implicitDefEqProofs (disch := first | decide | exact of_eq_true (eq_true rfl) | omega | assumption) only [ ↓vcD, vcE, ↓vcG, vcF, evs, evP, evB, intsOf, fillC, Value.cells, pt, Value.oneCell', reduceIte, reduceCtorEq, Nat.reduceEqDiff, Nat.reduceAdd, Nat.reduceMul, Nat.reduceLT, Nat.reduceBEq, Nat.reduceLeDiff, Nat.reduceSub] -- r3
  refine ITri.seq ?_
  refine ITri.reg pok ?_; simp -implicitDefEqProofs (disch := first | decide | exact of_eq_true (eq_true rfl) | omega | assumption) only [ ↓vcD, vcE, ↓vcG, vcF, evs, evP, evB, intsOf, fillC, Value.cells, pt, Value.oneCell', reduceIte, reduceCtorEq, Nat.reduceEqDiff, Nat.reduceAdd, Nat.reduceMul, Nat.reduceLT, Nat.reduceBEq, Nat.reduceLeDiff, Nat.reduceSub] -- r4
  refine ⟨_, _, number_b (by omega), ?_⟩
  try simp -implicitDefEqProofs (disch := first | decide | exact of_eq_true (eq_true rfl) | omega | assumption) only [ ↓vcD, vcE, ↓vcG, vcF, evs, evP, evB, intsOf, fillC, Value.cells, pt, Value.oneCell', reduceIte, reduceCtorEq, Nat.reduceEqDiff, Nat.reduceAdd, Nat.reduceMul, Nat.reduceLT, Nat.reduceBEq, Nat.reduceLeDiff, Nat.reduceSub]
  generalize groups N = gs at *
  refine ITri.seq ?_
  refine ITri.reg pok ?_; simp -implicitDefEqProofs (disch := first | decide | exact of_eq_true (eq_true rfl) | omega | assumption) only [ ↓vcD, vcE, ↓vcG, vcF, evs, evP, evB, intsOf, fillC, Value.cells, pt, Value.oneCell', reduceIte, reduceCtorEq, Nat.reduceEqDiff, Nat.reduceAdd, Nat.reduceMul, Nat.reduceLT, Nat.reduceBEq, Nat.reduceLeDiff, Nat.reduceSub] -- r5
  refine ⟨_, _, bytes_b (by omega), ?_⟩
  try simp -implicitDefEqProofs (disch := first | decide | exact of_eq_true (eq_true rfl) | omega | assumption) only [ ↓vcD, vcE, ↓vcG, vcF, evs, evP, evB, intsOf, fillC, Value.cells, pt, Value.oneCell', reduceIte, reduceCtorEq, Nat.reduceEqDiff, Nat.reduceAdd, Nat.reduceMul, Nat.reduceLT, Nat.reduceBEq, Nat.reduceLeDiff, Nat.reduceSub]
  refine ITri.ret ?_
  exact end_room (k := 3) (op := false) (n := gs.length) (mk := fun s => .tuple #[s, .int .i64 0]) 64 (mvP 0) (by decide) (by decide) (by omega) (rows_no (f := eB) _) rfl (by decide) (by show 64 * 1 ≤ (rows eB (gs ++ _)).length; rw [rows_len, List.length_append, List.length_replicate]; omega) (resF_tmp rfl (resF_tmp rfl resF_nil)) rfl
theorem puts_c (n : Int) : Fc Tryd.prog 49 [.int .i64 n] (Hp 1 [none]) (.tuple #[sO 1 (okG (okZ n) (groups (zz n))).length, .int .i64 (okE (okZ n))]) ((Hp 1 [none]).news [.cells ⟨rows eB (okC (okZ n) (groups (zz n))), 1, true⟩]) := by
  refine Fc.introR fn49 (by simp) rfl rfl ?_; simp only [argF]
  refine ITri.seq ?_
  refine ITri.reg pok ?_; simp -implicitDefEqProofs (disch := first | decide | exact of_eq_true (eq_true rfl) | omega | assumption) only [ ↓vcD, vcE, ↓vcG, vcF, evs, evP, evB, intsOf, fillC, Value.cells, pt, Value.oneCell', reduceIte, reduceCtorEq, Nat.reduceEqDiff, Nat.reduceAdd, Nat.reduceMul, Nat.reduceLT, Nat.reduceBEq, Nat.reduceLeDiff, Nat.reduceSub] -- r0
  refine ITri.seq ?_
  refine ITri.seq ?_
  by_cases g1 : n < -1000000000000000
  · have e : okZ n = false := by unfold okZ; rw [decide_eq_false (by omega)]
    rw [e]
    refine ITri.reg pok ?_; simp -implicitDefEqProofs (disch := first | decide | exact of_eq_true (eq_true rfl) | omega | assumption) only [g1, decide_true,  ↓vcD, vcE, ↓vcG, vcF, evs, evP, evB, intsOf, fillC, Value.cells, pt, Value.oneCell', reduceIte, reduceCtorEq, Nat.reduceEqDiff, Nat.reduceAdd, Nat.reduceMul, Nat.reduceLT, Nat.reduceBEq, Nat.reduceLeDiff, Nat.reduceSub] -- r1
    refine ITri.cond (v := true) rfl (fun _ => ?_) (fun h => by cases h)
    refine ITri.seq ?_
    refine ITri.reg pok ?_; simp -implicitDefEqProofs (disch := first | decide | exact of_eq_true (eq_true rfl) | omega | assumption) only [ ↓vcD, vcE, ↓vcG, vcF, evs, evP, evB, intsOf, fillC, Value.cells, pt, Value.oneCell', reduceIte, reduceCtorEq, Nat.reduceEqDiff, Nat.reduceAdd, Nat.reduceMul, Nat.reduceLT, Nat.reduceBEq, Nat.reduceLeDiff, Nat.reduceSub]
    refine ITri.ret ?_
    exact end_nil (mk := fun s => .tuple #[s, .int .i64 3]) (mvP 3) (resF_tmp rfl (resF_tmp rfl resF_nil)) rfl
  by_cases g2 : 1000000000000000 < n
  · have e : okZ n = false := by unfold okZ; rw [decide_eq_false (by omega)]
    rw [e]
    refine ITri.reg pok ?_; simp -implicitDefEqProofs (disch := first | decide | exact of_eq_true (eq_true rfl) | omega | assumption) only [g1, g2, decide_true, decide_false,  ↓vcD, vcE, ↓vcG, vcF, evs, evP, evB, intsOf, fillC, Value.cells, pt, Value.oneCell', reduceIte, reduceCtorEq, Nat.reduceEqDiff, Nat.reduceAdd, Nat.reduceMul, Nat.reduceLT, Nat.reduceBEq, Nat.reduceLeDiff, Nat.reduceSub] -- r1
    refine ITri.cond (v := true) rfl (fun _ => ?_) (fun h => by cases h)
    refine ITri.seq ?_
    refine ITri.reg pok ?_; simp -implicitDefEqProofs (disch := first | decide | exact of_eq_true (eq_true rfl) | omega | assumption) only [ ↓vcD, vcE, ↓vcG, vcF, evs, evP, evB, intsOf, fillC, Value.cells, pt, Value.oneCell', reduceIte, reduceCtorEq, Nat.reduceEqDiff, Nat.reduceAdd, Nat.reduceMul, Nat.reduceLT, Nat.reduceBEq, Nat.reduceLeDiff, Nat.reduceSub]
    refine ITri.ret ?_
    exact end_nil (mk := fun s => .tuple #[s, .int .i64 3]) (mvP 3) (resF_tmp rfl (resF_tmp rfl resF_nil)) rfl
  have e : okZ n = true := by unfold okZ; rw [decide_eq_true (by omega)]
  rw [e]
  have hz : zz n < 9223372036854775808 := by unfold zz; split <;> omega
  obtain ⟨b1, b2⟩ := groups_len hz
  refine ITri.reg pok ?_; simp -implicitDefEqProofs (disch := first | decide | exact of_eq_true (eq_true rfl) | omega | assumption) only [g1, g2, decide_false,  ↓vcD, vcE, ↓vcG, vcF, evs, evP, evB, intsOf, fillC, Value.cells, pt, Value.oneCell', reduceIte, reduceCtorEq, Nat.reduceEqDiff, Nat.reduceAdd, Nat.reduceMul, Nat.reduceLT, Nat.reduceBEq, Nat.reduceLeDiff, Nat.reduceSub] -- r1
  refine ITri.cond (v := false) rfl (fun h => by cases h) (fun _ => ?_); refine ITri.skip ?_; simp only [SeqQ_normal, BlkQ_normal]
  refine ITri.seq ?_
  refine ITri.reg pok ?_; simp -implicitDefEqProofs (disch := first | decide | exact of_eq_true (eq_true rfl) | omega | assumption) only [ ↓vcD, vcE, ↓vcG, vcF, evs, evP, evB, intsOf, fillC, Value.cells, pt, Value.oneCell', reduceIte, reduceCtorEq, Nat.reduceEqDiff, Nat.reduceAdd, Nat.reduceMul, Nat.reduceLT, Nat.reduceBEq, Nat.reduceLeDiff, Nat.reduceSub] -- r3
  refine ITri.seq ?_
  refine ITri.reg pok ?_; simp -implicitDefEqProofs (disch := first | decide | exact of_eq_true (eq_true rfl) | omega | assumption) only [ ↓vcD, vcE, ↓vcG, vcF, evs, evP, evB, intsOf, fillC, Value.cells, pt, Value.oneCell', reduceIte, reduceCtorEq, Nat.reduceEqDiff, Nat.reduceAdd, Nat.reduceMul, Nat.reduceLT, Nat.reduceBEq, Nat.reduceLeDiff, Nat.reduceSub] -- r4
  refine ⟨_, _, signed_b (by omega), ?_⟩
  try simp -implicitDefEqProofs (disch := first | decide | exact of_eq_true (eq_true rfl) | omega | assumption) only [ ↓vcD, vcE, ↓vcG, vcF, evs, evP, evB, intsOf, fillC, Value.cells, pt, Value.oneCell', reduceIte, reduceCtorEq, Nat.reduceEqDiff, Nat.reduceAdd, Nat.reduceMul, Nat.reduceLT, Nat.reduceBEq, Nat.reduceLeDiff, Nat.reduceSub]
  generalize groups (zz n) = gs at *
  refine ITri.seq ?_
  refine ITri.reg pok ?_; simp -implicitDefEqProofs (disch := first | decide | exact of_eq_true (eq_true rfl) | omega | assumption) only [ ↓vcD, vcE, ↓vcG, vcF, evs, evP, evB, intsOf, fillC, Value.cells, pt, Value.oneCell', reduceIte, reduceCtorEq, Nat.reduceEqDiff, Nat.reduceAdd, Nat.reduceMul, Nat.reduceLT, Nat.reduceBEq, Nat.reduceLeDiff, Nat.reduceSub] -- r5
  refine ⟨_, _, bytes_b (by omega), ?_⟩
  try simp -implicitDefEqProofs (disch := first | decide | exact of_eq_true (eq_true rfl) | omega | assumption) only [ ↓vcD, vcE, ↓vcG, vcF, evs, evP, evB, intsOf, fillC, Value.cells, pt, Value.oneCell', reduceIte, reduceCtorEq, Nat.reduceEqDiff, Nat.reduceAdd, Nat.reduceMul, Nat.reduceLT, Nat.reduceBEq, Nat.reduceLeDiff, Nat.reduceSub]
  refine ITri.ret ?_
  exact end_room (k := 3) (op := false) (n := gs.length) (mk := fun s => .tuple #[s, .int .i64 0]) 64 (mvP 0) (by decide) (by decide) (by omega) (rows_no (f := eB) _) rfl (by decide) (by show 64 * 1 ≤ (rows eB (gs ++ _)).length; rw [rows_len, List.length_append, List.length_replicate]; omega) (resF_tmp rfl (resF_tmp rfl resF_nil)) rfl
end Go.Proofs.YtgjokhodccacoaaDoor
