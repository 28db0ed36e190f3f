import Derived.Test.YtgjokhodccacoaaDoorSRecKv
import Derived.Test.YtgjokhodccacoaaDoorSMp
import Derived.Test.YtgjokhodccacoaaDoorSMe
import Derived.KernelRfl
set_option linter.unusedSimpArgs false
set_option linter.unusedVariables false
namespace Go.Proofs.YtgjokhodccacoaaDoor
open Go.RowKit Go.Vm
set_option maxRecDepth 1000000 in
theorem pok : POk Tryd.prog := ⟨t_mixed, t_names⟩
theorem knownT {h : AH} : Fc Tryd.prog 19 [] h (.bool true) h :=
 Fc.ofPlain rfl ⟨_, _, Tryd.func19, rfl⟩ fun w0 φ κ w R ha => known_any w R.below.now
def ovI (p : Nat → Bool) : Nat → Int
 | 0 => -1
 | k + 1 => if ovI p k < 0 ∧ p k = true then (k : Int) else ovI p k
theorem ov_stay {p : Nat → Bool} {k : Nat} (h : 0 ≤ ovI p k) : ∀ d, ovI p (k + d) = ovI p k
 | 0 => rfl
 | d + 1 => by
  have ih := ov_stay h d
  rw [show k + (d + 1) = (k + d) + 1 by omega, ovI, ih, if_neg (by omega)]
theorem ov_hit {p : Nat → Bool} {k n : Nat} (h1 : ovI p k = -1) (h2 : p k = true) (h3 : k < n) : ovI p n = k := by
 have h4 : ovI p (k + 1) = k := by rw [ovI, if_pos ⟨by omega, h2⟩]
 have h5 := ov_stay (p := p) (k := k + 1) (by omega) (n - (k + 1))
 rw [show k + 1 + (n - (k + 1)) = n by omega, h4] at h5
 exact h5
theorem ov_miss {p : Nat → Bool} {k : Nat} (h1 : ovI p k = -1) (h2 : p k = false) : ovI p (k + 1) = -1 := by
 rw [ovI, if_neg (by rw [h2]; simp), h1]
theorem ov_any {α : Type} [Inhabited α] {f : α → Bool} {xs : List α} : decide (0 ≤ ovI (fun k => f (nth xs k)) xs.length) = xs.any f := by
 have key : ∀ n, n ≤ xs.length → decide (0 ≤ ovI (fun k => f (nth xs k)) n) = (xs.take n).any f := by
  intro n
  induction n with
  | zero => intro _; rfl
  | succ n ih =>
   intro hn
   have ih := ih (by omega)
   rw [List.take_add_one, get_nth (by omega), List.any_append, ← ih, ovI]
   cases h : f (nth xs n) with
   | true =>
    by_cases h2 : ovI (fun k => f (nth xs k)) n < 0
    ·simp [h, h2]
    ·simp [h, h2, Int.not_lt.1 h2]
   | false => simp [h]
 have := key xs.length (Nat.le_refl _)
 rwa [List.take_length] at this
abbrev eN (n : Int) : List Value := [.int .i64 n]
instance flN : FlatE eN 1 := ⟨fun _ => rfl, fun _ => rfl, fun _ => rfl⟩
def inT (n a b : Int) : Bool := decide (a ≤ n) && decide (n ≤ b)
theorem inT_ok {n a b : Int} (h : inT n a b = true) : a ≤ n ∧ n ≤ b := by
 unfold inT at h
 simp only [Bool.and_eq_true, decide_eq_true_eq] at h
 exact h
theorem getN {xs : List Int} {i : Nat} (hi : i < xs.length) : (rows eN xs)[i]? = some (.int .i64 (nth xs i)) := rows_get1 (f := eN) hi
abbrev sO (k n : Nat) : Value := .slice (some ⟨k, 0, none⟩) n openB
abbrev mV (k : Nat) (n c : Nat) (W H : Int) : Value := .agg #[.int .i64 W, .int .i64 H, .slice (some ⟨k, 0, none⟩) n c]
set_option maxRecDepth 100000
def ir86_r0 : IC := .reg [⟨some 6, none, false, .mv (.k (.bool false))⟩] (some [0, 1, 2])
def ir86_r1 : IC := .reg [⟨some 7, none, false, .mv (.t 0)⟩,
 ⟨some 8, none, false, .mv (.t 1)⟩,
 ⟨some 9, none, false, .cmp .geq (.t 7) (.t 8)⟩,
 ⟨some 10, none, false, .mv (.t 9)⟩,
 ⟨some 11, some (10, true), false, .mv (.t 0)⟩,
 ⟨some 12, some (10, true), false, .mv (.t 2)⟩,
 ⟨some 13, some (10, true), false, .cmp .leq (.t 11) (.t 12)⟩,
 ⟨some 14, none, false, .pick (.t 10) (.t 13) (.k (.bool false))⟩,
 ⟨some 6, none, false, .mv (.t 14)⟩] (some [6])
def ir86_1 : IC := .seq ir86_r1 .ret
def ir86_2 : IC := .seq ir86_r0 ir86_1
def ir86 : IC := ir86_2
theorem fn86 : FnIs Tryd.prog 86 ir86 15 [.tmp 6] := ⟨Tryd.f86, Tryd.f86.body.getD .skip, Tryd.func86, by kernel_rfl, by kernel_rfl, by kernel_rfl, by kernel_rfl⟩
def ir88_r0 : IC := .reg [⟨some 3, none, false, .mv (.k (.bool false))⟩] (some [0, 1])
def ir88_r1 : IC := .reg [⟨some 4, none, false, .ldc (.t 1)⟩,
 ⟨some 5, none, false, .mv (.t 0)⟩,
 ⟨some 6, none, false, .call (.t 4) [(.t 5), (.k (.int .i64 0)), (.k (.int .i64 7))]⟩,
 ⟨some 7, none, false, .not (.t 6)⟩,
 ⟨some 3, none, false, .mv (.t 7)⟩] (some [3])
def ir88_1 : IC := .seq ir88_r1 .ret
def ir88_2 : IC := .seq ir88_r0 ir88_1
def ir88 : IC := ir88_2
theorem fn88 : FnIs Tryd.prog 88 ir88 8 [.tmp 3] := ⟨Tryd.f88, Tryd.f88.body.getD .skip, Tryd.func88, by kernel_rfl, by kernel_rfl, by kernel_rfl, by kernel_rfl⟩
def ir87_r0 : IC := .reg [⟨some 4, none, false, .mv (.k (.bool false))⟩] (some [0, 1])
def ir87_r1 : IC := .reg [⟨some 5, none, false, .mv (.t 0)⟩,
 ⟨some 6, none, false, .mv (.t 1)⟩,
 ⟨some 7, none, false, .call (.f 90) [(.t 5), (.t 6)]⟩,
 ⟨some 8, none, false, .cmp .geq (.t 7) (.k (.int .i64 0))⟩,
 ⟨some 4, none, false, .mv (.t 8)⟩] (some [4])
def ir87_1 : IC := .seq ir87_r1 .ret
def ir87_2 : IC := .seq ir87_r0 ir87_1
def ir87 : IC := ir87_2
theorem fn87 : FnIs Tryd.prog 87 ir87 9 [.tmp 4] := ⟨Tryd.f87, Tryd.f87.body.getD .skip, Tryd.func87, by kernel_rfl, by kernel_rfl, by kernel_rfl, by kernel_rfl⟩
def ir90_r0 : IC := .reg [⟨some 4, none, false, .mv (.k (.int .i64 0))⟩] (some [0, 1])
def ir90_r1 : IC := .reg [⟨some 6, none, false, .mv (.t 0)⟩,
 ⟨some 7, none, false, .len (.t 6)⟩,
 ⟨some 8, none, false, .mv (.k (.int .i64 0))⟩] (some [0, 1, 7, 8])
def ir90_r2 : IC := .reg [⟨some 9, none, false, .cmp .lss (.t 8) (.t 7)⟩] (some [0, 1, 7, 8, 9])
def ir90_1 : IC := .cond (.t 9) .skip (.exit 0)
def ir90_r3 : IC := .reg [⟨some 10, none, false, .mv (.t 8)⟩,
 ⟨some 5, none, false, .mv (.t 10)⟩] (some [0, 1, 5, 7, 8])
def ir90_r4 : IC := .reg [⟨some 11, none, false, .mv (.t 1)⟩,
 ⟨some 12, none, false, .mv (.t 0)⟩,
 ⟨some 13, none, false, .mv (.t 5)⟩,
 ⟨some 14, none, false, .iad 1 (.t 12) (.t 13)⟩,
 ⟨some 15, none, false, .ldc (.t 14)⟩,
 ⟨some 16, none, false, .call (.t 11) [(.t 15)]⟩] (some [0, 1, 5, 7, 8, 16])
def ir90_r5 : IC := .reg [⟨some 17, none, false, .mv (.t 5)⟩,
 ⟨some 4, none, false, .mv (.t 17)⟩] (some [4])
def ir90_2 : IC := .seq ir90_r5 .ret
def ir90_3 : IC := .cond (.t 16) ir90_2 .skip
def ir90_4 : IC := .seq ir90_r4 ir90_3
def ir90_5 : IC := .seq ir90_r3 ir90_4
def ir90_6 : IC := .block 1 ir90_5
def ir90_r6 : IC := .reg [⟨some 18, none, false, .ar .add (.t 8) (.k (.int .i64 1))⟩,
 ⟨some 8, none, false, .mv (.t 18)⟩] (some [0, 1, 7, 8])
def ir90_7 : IC := .seq ir90_6 ir90_r6
def ir90_8 : IC := .seq ir90_1 ir90_7
def ir90_9 : IC := .seq ir90_r2 ir90_8
def ir90_10 : IC := .loop ir90_9
def ir90_11 : IC := .block 0 ir90_10
def ir90_12 : IC := .seq ir90_r1 ir90_11
def ir90_r7 : IC := .reg [⟨some 4, none, false, .mv (.k (.int .i64 (-1)))⟩] (some [4])
def ir90_13 : IC := .seq ir90_r7 .ret
def ir90_14 : IC := .seq ir90_12 ir90_13
def ir90_15 : IC := .seq ir90_r0 ir90_14
def ir90 : IC := ir90_15
theorem fn90 : FnIs Tryd.prog 90 ir90 19 [.tmp 4] := ⟨Tryd.f90, Tryd.f90.body.getD .skip, Tryd.func90, by kernel_rfl, by kernel_rfl, by kernel_rfl, by kernel_rfl⟩
def ir36_r0 : IC := .reg [⟨some 1, none, false, .box (.t 0)⟩,
 ⟨some 2, none, false, .mv (.k (.int .i64 0))⟩] (some [1])
def ir36_r1 : IC := .reg [⟨some 3, none, false, .alloc [.nilFunc]⟩,
 ⟨none, none, false, .st 1 (.t 3) (.f 86)⟩] (some [1, 3])
def ir36_r2 : IC := .reg [⟨some 4, none, false, .ldc (.t 3)⟩,
 ⟨some 5, none, false, .fad 0 (.t 1)⟩,
 ⟨some 6, none, false, .ldc (.t 5)⟩,
 ⟨some 7, none, false, .call (.t 4) [(.t 6), (.k (.int .i64 1)), (.k (.int .i64 60))]⟩,
 ⟨some 8, none, false, .not (.t 7)⟩,
 ⟨some 9, none, false, .mv (.t 8)⟩,
 ⟨some 10, some (9, false), false, .ldc (.t 3)⟩,
 ⟨some 11, some (9, false), false, .fad 1 (.t 1)⟩,
 ⟨some 12, some (9, false), false, .ldc (.t 11)⟩,
 ⟨some 13, some (9, false), false, .call (.t 10) [(.t 12), (.k (.int .i64 1)), (.k (.int .i64 60))]⟩,
 ⟨some 14, some (9, false), false, .not (.t 13)⟩,
 ⟨some 15, none, false, .pick (.t 9) (.k (.bool true)) (.t 14)⟩,
 ⟨some 16, none, false, .mv (.t 15)⟩,
 ⟨some 17, some (16, false), false, .fad 2 (.t 1)⟩,
 ⟨some 18, some (16, false), false, .ldc (.t 17)⟩,
 ⟨some 19, some (16, false), false, .len (.t 18)⟩,
 ⟨some 20, some (16, false), false, .fad 0 (.t 1)⟩,
 ⟨some 21, some (16, false), false, .ldc (.t 20)⟩,
 ⟨some 22, some (16, false), false, .fad 1 (.t 1)⟩,
 ⟨some 23, some (16, false), false, .ldc (.t 22)⟩,
 ⟨some 24, some (16, false), false, .ar .mul (.t 21) (.t 23)⟩,
 ⟨some 25, some (16, false), false, .cmp .neq (.t 19) (.t 24)⟩,
 ⟨some 26, none, false, .pick (.t 16) (.k (.bool true)) (.t 25)⟩,
 ⟨some 27, none, false, .mv (.t 26)⟩,
 ⟨some 28, some (27, false), false, .fad 2 (.t 1)⟩,
 ⟨some 29, some (27, false), false, .ldc (.t 28)⟩,
 ⟨some 30, some (27, false), false, .mkf 88 [] [(.t 3)]⟩,
 ⟨some 31, some (27, false), false, .call (.f 87) [(.t 29), (.t 30)]⟩,
 ⟨some 32, none, false, .pick (.t 27) (.k (.bool true)) (.t 31)⟩] (some [32])
def ir36_r3 : IC := .reg [⟨some 2, none, false, .mv (.k (.int .i64 2))⟩] (some [2])
def ir36_1 : IC := .seq ir36_r3 .ret
def ir36_2 : IC := .cond (.t 32) ir36_1 .skip
def ir36_3 : IC := .seq ir36_r2 ir36_2
def ir36_r4 : IC := .reg [⟨some 2, none, false, .mv (.k (.int .i64 0))⟩] (some [2])
def ir36_4 : IC := .seq ir36_r4 .ret
def ir36_5 : IC := .seq ir36_3 ir36_4
def ir36_6 : IC := .seq ir36_r1 ir36_5
def ir36_7 : IC := .seq ir36_r0 ir36_6
def ir36 : IC := ir36_7
theorem fn36 : FnIs Tryd.prog 36 ir36 33 [.tmp 2] := ⟨Tryd.f36, Tryd.f36.body.getD .skip, Tryd.func36, by kernel_rfl, by kernel_rfl, by kernel_rfl, by kernel_rfl⟩
def ir39_r0 : IC := .reg [⟨some 1, none, false, .box (.t 0)⟩,
 ⟨some 2, none, false, .mv (.k (.bool false))⟩] (some [1])
def ir39_r1 : IC := .reg [⟨some 4, none, false, .fad 0 (.t 1)⟩,
 ⟨some 5, none, false, .ldc (.t 4)⟩,
 ⟨some 6, none, false, .cmp .lss (.t 5) (.k (.int .i64 1))⟩,
 ⟨some 7, none, false, .mv (.t 6)⟩,
 ⟨some 8, some (7, false), false, .fad 0 (.t 1)⟩,
 ⟨some 9, some (7, false), false, .ldc (.t 8)⟩,
 ⟨some 10, some (7, false), false, .cmp .gtr (.t 9) (.k (.int .i64 60))⟩,
 ⟨some 11, none, false, .pick (.t 7) (.k (.bool true)) (.t 10)⟩,
 ⟨some 12, none, false, .mv (.t 11)⟩,
 ⟨some 13, some (12, false), false, .fad 1 (.t 1)⟩,
 ⟨some 14, some (12, false), false, .ldc (.t 13)⟩,
 ⟨some 15, some (12, false), false, .cmp .lss (.t 14) (.k (.int .i64 1))⟩,
 ⟨some 16, none, false, .pick (.t 12) (.k (.bool true)) (.t 15)⟩,
 ⟨some 17, none, false, .mv (.t 16)⟩,
 ⟨some 18, some (17, false), false, .fad 1 (.t 1)⟩,
 ⟨some 19, some (17, false), false, .ldc (.t 18)⟩,
 ⟨some 20, some (17, false), false, .cmp .gtr (.t 19) (.k (.int .i64 60))⟩,
 ⟨some 21, none, false, .pick (.t 17) (.k (.bool true)) (.t 20)⟩,
 ⟨some 22, none, false, .mv (.t 21)⟩,
 ⟨some 23, some (22, false), false, .fad 2 (.t 1)⟩,
 ⟨some 24, some (22, false), false, .ldc (.t 23)⟩,
 ⟨some 25, some (22, false), false, .len (.t 24)⟩,
 ⟨some 26, some (22, false), false, .fad 0 (.t 1)⟩,
 ⟨some 27, some (22, false), false, .ldc (.t 26)⟩,
 ⟨some 28, some (22, false), false, .fad 1 (.t 1)⟩,
 ⟨some 29, some (22, false), false, .ldc (.t 28)⟩,
 ⟨some 30, some (22, false), false, .ar .mul (.t 27) (.t 29)⟩,
 ⟨some 31, some (22, false), false, .cmp .neq (.t 25) (.t 30)⟩,
 ⟨some 32, none, false, .pick (.t 22) (.k (.bool true)) (.t 31)⟩] (some [1, 32])
def ir39_r2 : IC := .reg [⟨some 2, none, false, .mv (.k (.bool false))⟩] (some [2])
def ir39_1 : IC := .seq ir39_r2 .ret
def ir39_2 : IC := .cond (.t 32) ir39_1 .skip
def ir39_3 : IC := .seq ir39_r1 ir39_2
def ir39_r3 : IC := .reg [⟨some 3, none, false, .mv (.k (.int .i64 0))⟩] (some [1, 3])
def ir39_r4 : IC := .reg [⟨some 33, none, false, .mv (.t 3)⟩,
 ⟨some 34, none, false, .fad 2 (.t 1)⟩,
 ⟨some 35, none, false, .ldc (.t 34)⟩,
 ⟨some 36, none, false, .len (.t 35)⟩,
 ⟨some 37, none, false, .cmp .lss (.t 33) (.t 36)⟩] (some [1, 3, 37])
def ir39_4 : IC := .cond (.t 37) .skip (.exit 0)
def ir39_5 : IC := .seq ir39_r4 ir39_4
def ir39_r6 : IC := .reg [⟨some 40, none, false, .fad 2 (.t 1)⟩,
 ⟨some 41, none, false, .ldc (.t 40)⟩,
 ⟨some 42, none, false, .mv (.t 3)⟩,
 ⟨some 43, none, false, .iad 1 (.t 41) (.t 42)⟩,
 ⟨some 44, none, false, .ldc (.t 43)⟩,
 ⟨some 45, none, false, .cmp .lss (.t 44) (.k (.int .i64 0))⟩,
 ⟨some 46, none, false, .mv (.t 45)⟩,
 ⟨some 47, some (46, false), false, .fad 2 (.t 1)⟩,
 ⟨some 48, some (46, false), false, .ldc (.t 47)⟩,
 ⟨some 49, some (46, false), false, .mv (.t 3)⟩,
 ⟨some 50, some (46, false), false, .iad 1 (.t 48) (.t 49)⟩,
 ⟨some 51, some (46, false), false, .ldc (.t 50)⟩,
 ⟨some 52, some (46, false), false, .cmp .gtr (.t 51) (.k (.int .i64 7))⟩,
 ⟨some 53, none, false, .pick (.t 46) (.k (.bool true)) (.t 52)⟩] (some [1, 3, 53])
def ir39_r7 : IC := .reg [⟨some 2, none, false, .mv (.k (.bool false))⟩] (some [2])
def ir39_6 : IC := .seq ir39_r7 .ret
def ir39_7 : IC := .cond (.t 53) ir39_6 .skip
def ir39_8 : IC := .seq ir39_r6 ir39_7
def ir39_9 : IC := .block 1 ir39_8
def ir39_r5 : IC := .reg [⟨some 38, none, false, .mv (.t 3)⟩,
 ⟨some 39, none, false, .ar .add (.t 38) (.k (.int .i64 1))⟩,
 ⟨some 3, none, false, .mv (.t 39)⟩] (some [1, 3])
def ir39_10 : IC := .seq ir39_9 ir39_r5
def ir39_11 : IC := .seq ir39_5 ir39_10
def ir39_12 : IC := .loop ir39_11
def ir39_13 : IC := .block 0 ir39_12
def ir39_14 : IC := .seq ir39_r3 ir39_13
def ir39_r8 : IC := .reg [⟨some 2, none, false, .mv (.k (.bool true))⟩] (some [2])
def ir39_15 : IC := .seq ir39_r8 .ret
def ir39_16 : IC := .seq ir39_14 ir39_15
def ir39_17 : IC := .seq ir39_3 ir39_16
def ir39_18 : IC := .seq ir39_r0 ir39_17
def ir39 : IC := ir39_18
theorem fn39 : FnIs Tryd.prog 39 ir39 54 [.tmp 2] := ⟨Tryd.f39, Tryd.f39.body.getD .skip, Tryd.func39, by kernel_rfl, by kernel_rfl, by kernel_rfl, by kernel_rfl⟩
def ir35_r0 : IC := .reg [⟨some 1, none, false, .box (.t 0)⟩,
 ⟨some 2, none, false, .alloc [(.int .i64 0), (.int .i64 0), (.slice none 0 0)]⟩] (some [1, 2])
def ir35_r1 : IC := .draw [(⟨some 3, none, false, .fad 0 (.t 1)⟩, false, 0, 0),
 (⟨some 4, none, false, .ldc (.t 3)⟩, false, 1, 129),
 (⟨some 5, none, false, .fad 1 (.t 1)⟩, false, 0, 0),
 (⟨some 6, none, false, .ldc (.t 5)⟩, false, 4, 130),
 (⟨some 7, none, false, .bsl 1 0 [] []⟩, false, 0, 134),
 (⟨some 8, none, false, .fad 2 (.t 1)⟩, false, 0, 0),
 (⟨some 9, none, false, .ldc (.t 8)⟩, false, 32, 134),
 (⟨some 10, none, false, .app 1 8 (.t 7) (.t 9)⟩, false, 112, 134),
 (⟨some 11, none, false, .bld [(.int .i64 0), (.int .i64 0), (.slice none 0 0)] [(0, 1, (.t 4)), (1, 1, (.t 6)), (2, 1, (.t 10))]⟩, false, 255, 0),
 (⟨none, none, false, .st 3 (.t 2) (.t 11)⟩, true, 511, 0)] (some [2])
def ir35_1 : IC := .seq ir35_r1 .ret
def ir35_2 : IC := .seq ir35_r0 ir35_1
def ir35 : IC := ir35_2
theorem fn35 : FnIs Tryd.prog 35 ir35 12 [.cell 2 56] := ⟨Tryd.f35, Tryd.f35.body.getD .skip, Tryd.func35, by kernel_rfl, by kernel_rfl, by kernel_rfl, by kernel_rfl⟩
def ir40_r0 : IC := .reg [⟨some 2, none, false, .box (.t 0)⟩,
 ⟨some 3, none, false, .box (.t 1)⟩,
 ⟨some 4, none, false, .mv (.k (.bool false))⟩] (some [2, 3])
def ir40_r1 : IC := .reg [⟨some 6, none, false, .fad 0 (.t 2)⟩,
 ⟨some 7, none, false, .ldc (.t 6)⟩,
 ⟨some 8, none, false, .fad 0 (.t 3)⟩,
 ⟨some 9, none, false, .ldc (.t 8)⟩,
 ⟨some 10, none, false, .cmp .neq (.t 7) (.t 9)⟩,
 ⟨some 11, none, false, .mv (.t 10)⟩,
 ⟨some 12, some (11, false), false, .fad 1 (.t 2)⟩,
 ⟨some 13, some (11, false), false, .ldc (.t 12)⟩,
 ⟨some 14, some (11, false), false, .fad 1 (.t 3)⟩,
 ⟨some 15, some (11, false), false, .ldc (.t 14)⟩,
 ⟨some 16, some (11, false), false, .cmp .neq (.t 13) (.t 15)⟩,
 ⟨some 17, none, false, .pick (.t 11) (.k (.bool true)) (.t 16)⟩,
 ⟨some 18, none, false, .mv (.t 17)⟩,
 ⟨some 19, some (18, false), false, .fad 2 (.t 2)⟩,
 ⟨some 20, some (18, false), false, .ldc (.t 19)⟩,
 ⟨some 21, some (18, false), false, .len (.t 20)⟩,
 ⟨some 22, some (18, false), false, .fad 2 (.t 3)⟩,
 ⟨some 23, some (18, false), false, .ldc (.t 22)⟩,
 ⟨some 24, some (18, false), false, .len (.t 23)⟩,
 ⟨some 25, some (18, false), false, .cmp .neq (.t 21) (.t 24)⟩,
 ⟨some 26, none, false, .pick (.t 18) (.k (.bool true)) (.t 25)⟩] (some [2, 3, 26])
def ir40_r2 : IC := .reg [⟨some 4, none, false, .mv (.k (.bool false))⟩] (some [4])
def ir40_1 : IC := .seq ir40_r2 .ret
def ir40_2 : IC := .cond (.t 26) ir40_1 .skip
def ir40_3 : IC := .seq ir40_r1 ir40_2
def ir40_r3 : IC := .reg [⟨some 5, none, false, .mv (.k (.int .i64 0))⟩] (some [2, 3, 5])
def ir40_r4 : IC := .reg [⟨some 27, none, false, .mv (.t 5)⟩,
 ⟨some 28, none, false, .fad 2 (.t 2)⟩,
 ⟨some 29, none, false, .ldc (.t 28)⟩,
 ⟨some 30, none, false, .len (.t 29)⟩,
 ⟨some 31, none, false, .cmp .lss (.t 27) (.t 30)⟩] (some [2, 3, 5, 31])
def ir40_4 : IC := .cond (.t 31) .skip (.exit 0)
def ir40_5 : IC := .seq ir40_r4 ir40_4
def ir40_r6 : IC := .draw [(⟨some 34, none, false, .fad 2 (.t 2)⟩, false, 0, 0),
 (⟨some 35, none, false, .ldc (.t 34)⟩, false, 1, 1),
 (⟨some 36, none, false, .mv (.t 5)⟩, false, 0, 0),
 (⟨some 37, none, false, .iad 1 (.t 35) (.t 36)⟩, false, 7, 0),
 (⟨some 38, none, false, .ldc (.t 37)⟩, false, 15, 1),
 (⟨some 39, none, false, .fad 2 (.t 3)⟩, false, 0, 0),
 (⟨some 40, none, false, .ldc (.t 39)⟩, false, 32, 16),
 (⟨some 41, none, false, .mv (.t 5)⟩, false, 0, 0),
 (⟨some 42, none, false, .iad 1 (.t 40) (.t 41)⟩, false, 224, 0),
 (⟨some 43, none, false, .ldc (.t 42)⟩, false, 480, 16),
 (⟨some 44, none, false, .cmp .neq (.t 38) (.t 43)⟩, false, 1023, 0)] (some [2, 3, 5, 44])
def ir40_r7 : IC := .reg [⟨some 4, none, false, .mv (.k (.bool false))⟩] (some [4])
def ir40_6 : IC := .seq ir40_r7 .ret
def ir40_7 : IC := .cond (.t 44) ir40_6 .skip
def ir40_8 : IC := .seq ir40_r6 ir40_7
def ir40_9 : IC := .block 1 ir40_8
def ir40_r5 : IC := .reg [⟨some 32, none, false, .mv (.t 5)⟩,
 ⟨some 33, none, false, .ar .add (.t 32) (.k (.int .i64 1))⟩,
 ⟨some 5, none, false, .mv (.t 33)⟩] (some [2, 3, 5])
def ir40_10 : IC := .seq ir40_9 ir40_r5
def ir40_11 : IC := .seq ir40_5 ir40_10
def ir40_12 : IC := .loop ir40_11
def ir40_13 : IC := .block 0 ir40_12
def ir40_14 : IC := .seq ir40_r3 ir40_13
def ir40_r8 : IC := .reg [⟨some 4, none, false, .mv (.k (.bool true))⟩] (some [4])
def ir40_15 : IC := .seq ir40_r8 .ret
def ir40_16 : IC := .seq ir40_14 ir40_15
def ir40_17 : IC := .seq ir40_3 ir40_16
def ir40_18 : IC := .seq ir40_r0 ir40_17
def ir40 : IC := ir40_18
theorem fn40 : FnIs Tryd.prog 40 ir40 45 [.tmp 4] := ⟨Tryd.f40, Tryd.f40.body.getD .skip, Tryd.func40, by kernel_rfl, by kernel_rfl, by kernel_rfl, by kernel_rfl⟩
theorem in_f (n a b : Int) {h : AH} (hs : h.sees 0 = true) : Fc Tryd.prog 86 [.int .i64 n, .int .i64 a, .int .i64 b] h (.bool (inT n a b)) h := by
 refine Fc.lift0 ?_ rfl rfl hs
 refine Fc.intro0 fn86 (by simp) rfl rfl ?_; simp only [argF]
 refine ITri.seq ?_
 refine ITri.reg pok ?_; simp -implicitDefEqProofs (disch := first | decide | exact of_eq_true (eq_true rfl) | omega | assumption) only [ ↓vcD, vcE, ↓vcG, vcF, evs, evP, evB, intsOf, fillC, Value.cells, pt, Value.oneCell', reduceIte, reduceCtorEq, Nat.reduceEqDiff, Nat.reduceAdd, Nat.reduceMul, Nat.reduceLT, Nat.reduceBEq, Nat.reduceLeDiff, Nat.reduceSub]
 refine ITri.seq ?_
 by_cases g : a ≤ n
 ·refine ITri.reg pok ?_; simp -implicitDefEqProofs (disch := first | decide | exact of_eq_true (eq_true rfl) | omega | assumption) only [g, decide_true,  ↓vcD, vcE, ↓vcG, vcF, evs, evP, evB, intsOf, fillC, Value.cells, pt, Value.oneCell', reduceIte, reduceCtorEq, Nat.reduceEqDiff, Nat.reduceAdd, Nat.reduceMul, Nat.reduceLT, Nat.reduceBEq, Nat.reduceLeDiff, Nat.reduceSub]
  refine ITri.ret ?_; exact EndR.plain (by simp) (by rfl) (by unfold inT; rw [decide_eq_true g]; rfl) (by rfl)
 ·refine ITri.reg pok ?_; simp -implicitDefEqProofs (disch := first | decide | exact of_eq_true (eq_true rfl) | omega | assumption) only [g, decide_false,  ↓vcD, vcE, ↓vcG, vcF, evs, evP, evB, intsOf, fillC, Value.cells, pt, Value.oneCell', reduceIte, reduceCtorEq, Nat.reduceEqDiff, Nat.reduceAdd, Nat.reduceMul, Nat.reduceLT, Nat.reduceBEq, Nat.reduceLeDiff, Nat.reduceSub]
  refine ITri.ret ?_; exact EndR.plain (by simp) (by rfl) (by unfold inT; rw [decide_eq_false g]; rfl) (by rfl)
theorem indexI_x {wl ks c n sz g : Nat} {op : Bool} {xs : List Int} {caps : List Value} (L : List (Option AObj)) (p : Nat → Bool) (hx : xs.length = n) (hb : n ≤ 1000000) (hH : (L[ks]?).join = some (.cells ⟨rows eN xs, sz, op⟩))
    (F : ∀ k, k < n → Fc Tryd.prog g (.int .i64 (nth xs k) :: caps) (Hp wl L) (.bool (p k)) (Hp wl L)) :
    Fc Tryd.prog 90 [.slice (some ⟨ks, 0, none⟩) n c, .func (.func g) ⟨[]⟩ ⟨caps⟩] (Hp wl L) (.int .i64 (ovI p n)) (Hp wl L) := by
 refine Fc.introX fn90 (by simp) (fun _ => Grow.refl _) ?_
 simp only [argF]
 refine ITri.seq ?_
 refine ITri.reg pok ?_; simp -implicitDefEqProofs (disch := first | decide | exact of_eq_true (eq_true rfl) | omega | assumption) only [ ↓vcD, vcE, ↓vcG, vcF, evs, evP, evB, intsOf, fillC, Value.cells, pt, Value.oneCell', reduceIte, reduceCtorEq, Nat.reduceEqDiff, Nat.reduceAdd, Nat.reduceMul, Nat.reduceLT, Nat.reduceBEq, Nat.reduceLeDiff, Nat.reduceSub]
 refine ITri.seq ?_
 refine ITri.seq ?_
 refine ITri.reg pok ?_; simp -implicitDefEqProofs (disch := first | decide | exact of_eq_true (eq_true rfl) | omega | assumption) only [ ↓vcD, vcE, ↓vcG, vcF, evs, evP, evB, intsOf, fillC, Value.cells, pt, Value.oneCell', reduceIte, reduceCtorEq, Nat.reduceEqDiff, Nat.reduceAdd, Nat.reduceMul, Nat.reduceLT, Nat.reduceBEq, Nat.reduceLeDiff, Nat.reduceSub]
 refine ITri.block ?_
 refine ITri.loop (fun k : Nat => [(0, .slice (some ⟨ks, 0, none⟩) n c), (1, .func (.func g) ⟨[]⟩ ⟨caps⟩), (7, .int .i64 n), (8, .int .i64 k)]) (fun _ => []) (fun k => Hp wl L) (fun k => k ≤ n ∧ ovI p k = -1) (fun k => n - k) 0 ⟨Nat.zero_le _, rfl⟩ (Wk.sub ⟨rfl, rfl, rfl, rfl, trivial⟩) fun k hk => ?_
 obtain ⟨hk, ho⟩ := hk
 refine ITri.seq ?_
 refine ITri.reg pok ?_; simp -implicitDefEqProofs (disch := first | decide | exact of_eq_true (eq_true rfl) | omega | assumption) only [ ↓vcD, vcE, ↓vcG, vcF, evs, evP, evB, intsOf, fillC, Value.cells, pt, Value.oneCell', reduceIte, reduceCtorEq, Nat.reduceEqDiff, Nat.reduceAdd, Nat.reduceMul, Nat.reduceLT, Nat.reduceBEq, Nat.reduceLeDiff, Nat.reduceSub]
 refine ITri.seq ?_
 refine ITri.condD (by rfl) (fun h1 => ?_) (fun h1 => ?_)
 ·have h2 : k < n := by omega
  have hg : (rows eN xs)[k]? = some (.int .i64 (nth xs k)) := getN (by omega)
  refine ITri.skip ?_; simp only [SeqQ_normal, BlkQ_normal]
  refine ITri.seq ?_
  refine ITri.block ?_
  refine ITri.seq ?_
  refine ITri.reg pok ?_; simp -implicitDefEqProofs (disch := first | decide | exact of_eq_true (eq_true rfl) | omega | assumption) only [ ↓vcD, vcE, ↓vcG, vcF, evs, evP, evB, intsOf, fillC, Value.cells, pt, Value.oneCell', reduceIte, reduceCtorEq, Nat.reduceEqDiff, Nat.reduceAdd, Nat.reduceMul, Nat.reduceLT, Nat.reduceBEq, Nat.reduceLeDiff, Nat.reduceSub]
  refine ITri.seq ?_
  refine ITri.reg pok ?_; simp -implicitDefEqProofs (disch := first | decide | exact of_eq_true (eq_true rfl) | omega | assumption) only [hH, hg,  ↓vcD, vcE, ↓vcG, vcF, evs, evP, evB, intsOf, fillC, Value.cells, pt, Value.oneCell', reduceIte, reduceCtorEq, Nat.reduceEqDiff, Nat.reduceAdd, Nat.reduceMul, Nat.reduceLT, Nat.reduceBEq, Nat.reduceLeDiff, Nat.reduceSub]
  refine ⟨_, _, F k h2, ?_⟩
  try simp -implicitDefEqProofs (disch := first | decide | exact of_eq_true (eq_true rfl) | omega | assumption) only [ ↓vcD, vcE, ↓vcG, vcF, evs, evP, evB, intsOf, fillC, Value.cells, pt, Value.oneCell', reduceIte, reduceCtorEq, Nat.reduceEqDiff, Nat.reduceAdd, Nat.reduceMul, Nat.reduceLT, Nat.reduceBEq, Nat.reduceLeDiff, Nat.reduceSub]
  refine ITri.cond (by rfl) (fun h3 => ?_) (fun h3 => ?_)
  ·have h4 := ov_hit ho h3 h2
   rw [h4]
   refine ITri.seq ?_
   refine ITri.reg pok ?_; simp -implicitDefEqProofs (disch := first | decide | exact of_eq_true (eq_true rfl) | omega | assumption) only [ ↓vcD, vcE, ↓vcG, vcF, evs, evP, evB, intsOf, fillC, Value.cells, pt, Value.oneCell', reduceIte, reduceCtorEq, Nat.reduceEqDiff, Nat.reduceAdd, Nat.reduceMul, Nat.reduceLT, Nat.reduceBEq, Nat.reduceLeDiff, Nat.reduceSub]
   refine ITri.ret ?_; exact EndX.mk (by simp) (by rfl) (by rfl) (by rfl)
  refine ITri.skip ?_; simp only [SeqQ_normal, BlkQ_normal]
  refine ITri.reg pok ?_; simp -implicitDefEqProofs (disch := first | decide | exact of_eq_true (eq_true rfl) | omega | assumption) only [ ↓vcD, vcE, ↓vcG, vcF, evs, evP, evB, intsOf, fillC, Value.cells, pt, Value.oneCell', reduceIte, reduceCtorEq, Nat.reduceEqDiff, Nat.reduceAdd, Nat.reduceMul, Nat.reduceLT, Nat.reduceBEq, Nat.reduceLeDiff, Nat.reduceSub]
  exact LoopQ.next (k + 1) ⟨by omega, ov_miss ho h3⟩ (by omega) (Wk.sub ⟨rfl, rfl, rfl, rfl, trivial⟩)
 refine ITri.exit ?_; try simp -implicitDefEqProofs (disch := first | decide | exact of_eq_true (eq_true rfl) | omega | assumption) only [ ↓vcD, vcE, ↓vcG, vcF, evs, evP, evB, intsOf, fillC, Value.cells, pt, Value.oneCell', reduceIte, reduceCtorEq, Nat.reduceEqDiff, Nat.reduceAdd, Nat.reduceMul, Nat.reduceLT, Nat.reduceBEq, Nat.reduceLeDiff, Nat.reduceSub]
 obtain rfl : n = k := by omega
 rw [ho]
 refine ITri.seq ?_
 refine ITri.reg pok ?_; simp -implicitDefEqProofs (disch := first | decide | exact of_eq_true (eq_true rfl) | omega | assumption) only [ ↓vcD, vcE, ↓vcG, vcF, evs, evP, evB, intsOf, fillC, Value.cells, pt, Value.oneCell', reduceIte, reduceCtorEq, Nat.reduceEqDiff, Nat.reduceAdd, Nat.reduceMul, Nat.reduceLT, Nat.reduceBEq, Nat.reduceLeDiff, Nat.reduceSub]
 refine ITri.ret ?_; exact EndX.mk (by simp) (by rfl) (by rfl) (by rfl)
theorem wrong_f {wl kb : Nat} {L : List (Option AObj)} (n : Int) (hL : (L[kb]?).join = some (.cells ⟨[.func (.func 86) #[] #[]], 1, false⟩)) (h0 : 0 < L.length) : Fc Tryd.prog 88 [.int .i64 n, .pointer (some ⟨kb, 0, none⟩)] (Hp wl L) (.bool (!inT n 0 7)) (Hp wl L) := by
 refine Fc.introX fn88 (by simp) (fun _ => Grow.refl _) ?_; simp only [argF]
 refine ITri.seq ?_
 refine ITri.reg pok ?_; simp -implicitDefEqProofs (disch := first | decide | exact of_eq_true (eq_true rfl) | omega | assumption) only [ ↓vcD, vcE, ↓vcG, vcF, evs, evP, evB, intsOf, fillC, Value.cells, pt, Value.oneCell', reduceIte, reduceCtorEq, Nat.reduceEqDiff, Nat.reduceAdd, Nat.reduceMul, Nat.reduceLT, Nat.reduceBEq, Nat.reduceLeDiff, Nat.reduceSub]
 refine ITri.seq ?_
 refine ITri.reg pok ?_; simp -implicitDefEqProofs (disch := first | decide | exact of_eq_true (eq_true rfl) | omega | assumption) only [hL,  ↓vcD, vcE, ↓vcG, vcF, evs, evP, evB, intsOf, fillC, Value.cells, pt, Value.oneCell', reduceIte, reduceCtorEq, Nat.reduceEqDiff, Nat.reduceAdd, Nat.reduceMul, Nat.reduceLT, Nat.reduceBEq, Nat.reduceLeDiff, Nat.reduceSub]
 refine ⟨_, _, in_f _ _ _ (sees0 rfl h0), ?_⟩
 try simp -implicitDefEqProofs (disch := first | decide | exact of_eq_true (eq_true rfl) | omega | assumption) only [ ↓vcD, vcE, ↓vcG, vcF, evs, evP, evB, intsOf, fillC, Value.cells, pt, Value.oneCell', reduceIte, reduceCtorEq, Nat.reduceEqDiff, Nat.reduceAdd, Nat.reduceMul, Nat.reduceLT, Nat.reduceBEq, Nat.reduceLeDiff, Nat.reduceSub]
 refine ITri.ret ?_; exact EndX.mk (by simp) (by rfl) (by rfl) (by rfl)
theorem containsC_x {wl ks c n sz kb : Nat} {op : Bool} {xs : List Int} (L : List (Option AObj)) (hx : xs.length = n) (hb : n ≤ 1000000) (h0 : 0 < L.length) (hH : (L[ks]?).join = some (.cells ⟨rows eN xs, sz, op⟩)) (hK : (L[kb]?).join = some (.cells ⟨[.func (.func 86) #[] #[]], 1, false⟩)) :
    Fc Tryd.prog 87 [.slice (some ⟨ks, 0, none⟩) n c, .func (.func 88) #[] #[.pointer (some ⟨kb, 0, none⟩)]] (Hp wl L) (.bool (xs.any fun r => !inT r 0 7)) (Hp wl L) := by
 have hI := indexI_x (wl := wl) (c := c) (g := 88) (caps := [.pointer (some ⟨kb, 0, none⟩)]) L (fun k => !inT (nth xs k) 0 7) hx hb hH (fun k hk => wrong_f _ hK h0)
 have hany : decide (0 ≤ ovI (fun k => !inT (nth xs k) 0 7) n) = xs.any fun r => !inT r 0 7 := by rw [← hx]; exact ov_any (f := fun r => !inT r 0 7)
 refine Fc.introX fn87 (by simp) (fun _ => Grow.refl _) ?_
 simp only [argF]
 refine ITri.seq ?_
 refine ITri.reg pok ?_; simp -implicitDefEqProofs (disch := first | decide | exact of_eq_true (eq_true rfl) | omega | assumption) only [ ↓vcD, vcE, ↓vcG, vcF, evs, evP, evB, intsOf, fillC, Value.cells, pt, Value.oneCell', reduceIte, reduceCtorEq, Nat.reduceEqDiff, Nat.reduceAdd, Nat.reduceMul, Nat.reduceLT, Nat.reduceBEq, Nat.reduceLeDiff, Nat.reduceSub]
 refine ITri.seq ?_
 refine ITri.reg pok ?_; simp -implicitDefEqProofs (disch := first | decide | exact of_eq_true (eq_true rfl) | omega | assumption) only [ ↓vcD, vcE, ↓vcG, vcF, evs, evP, evB, intsOf, fillC, Value.cells, pt, Value.oneCell', reduceIte, reduceCtorEq, Nat.reduceEqDiff, Nat.reduceAdd, Nat.reduceMul, Nat.reduceLT, Nat.reduceBEq, Nat.reduceLeDiff, Nat.reduceSub]
 refine ⟨_, _, hI, ?_⟩
 simp -implicitDefEqProofs (disch := first | decide | exact of_eq_true (eq_true rfl) | omega | assumption) only [hany,  ↓vcD, vcE, ↓vcG, vcF, evs, evP, evB, intsOf, fillC, Value.cells, pt, Value.oneCell', reduceIte, reduceCtorEq, Nat.reduceEqDiff, Nat.reduceAdd, Nat.reduceMul, Nat.reduceLT, Nat.reduceBEq, Nat.reduceLeDiff, Nat.reduceSub]
 refine ITri.ret ?_; exact EndX.mk (by simp) (by rfl) (by rfl) (by rfl)
theorem any_not (xs : List Int) : (xs.any fun r => !inT r 0 7) = !xs.all fun r => inT r 0 7 := by
 induction xs with
 | nil => rfl
 | cons x r ih => rw [List.any_cons, List.all_cons, ih, Bool.not_and]
def mOK (W H : Int) (xs : List Int) : Bool := inT W 1 60 && inT H 1 60 && decide ((xs.length : Int) = W * H) && xs.all fun c => inT c 0 7
def mE (W H : Int) (xs : List Int) : Int := if mOK W H xs = true then 0 else 2
theorem mul_bd {W H : Int} (h1 : inT W 1 60 = true) (h2 : inT H 1 60 = true) : 1 ≤ W * H ∧ W * H ≤ 3600 := by
 obtain ⟨a, b⟩ := inT_ok h1
 obtain ⟨c, d⟩ := inT_ok h2
 constructor
 ·have := Int.mul_le_mul a c (by omega) (by omega)
  omega
 ·have := Int.mul_le_mul b d (by omega) (by omega)
  omega
theorem check_c (n c : Nat) (W H : Int) (xs : List Int) (hn : xs.length = n) (hb : n ≤ 1000000) :
    Fc Tryd.prog 36 [mV 1 n c W H] (Hp 2 [none, some (.cells ⟨rows eN xs, 0, false⟩)]) (.int .i64 (mE W H xs)) (Hp 2 [none, some (.cells ⟨rows eN xs, 0, false⟩)]) := by
 refine Fc.intro0 fn36 (by simp) rfl rfl ?_; simp only [argF]
 refine ITri.seq ?_
 refine ITri.reg pok ?_; simp -implicitDefEqProofs (disch := first | decide | exact of_eq_true (eq_true rfl) | omega | assumption) only [ ↓vcD, vcE, ↓vcG, vcF, evs, evP, evB, intsOf, fillC, Value.cells, pt, Value.oneCell', reduceIte, reduceCtorEq, Nat.reduceEqDiff, Nat.reduceAdd, Nat.reduceMul, Nat.reduceLT, Nat.reduceBEq, Nat.reduceLeDiff, Nat.reduceSub]
 refine ITri.seq ?_
 refine ITri.reg pok ?_; simp -implicitDefEqProofs (disch := first | decide | exact of_eq_true (eq_true rfl) | omega | assumption) only [ ↓vcD, vcE, ↓vcG, vcF, evs, evP, evB, intsOf, fillC, Value.cells, pt, Value.oneCell', reduceIte, reduceCtorEq, Nat.reduceEqDiff, Nat.reduceAdd, Nat.reduceMul, Nat.reduceLT, Nat.reduceBEq, Nat.reduceLeDiff, Nat.reduceSub]
 refine ITri.seq ?_
 refine ITri.seq ?_
 refine ITri.reg pok ?_; simp -implicitDefEqProofs (disch := first | decide | exact of_eq_true (eq_true rfl) | omega | assumption) only [ ↓vcD, vcE, ↓vcG, vcF, evs, evP, evB, intsOf, fillC, Value.cells, pt, Value.oneCell', reduceIte, reduceCtorEq, Nat.reduceEqDiff, Nat.reduceAdd, Nat.reduceMul, Nat.reduceLT, Nat.reduceBEq, Nat.reduceLeDiff, Nat.reduceSub]
 refine ⟨_, _, in_f _ _ _ (sees0 rfl (of_decide_eq_true rfl)), ?_⟩
 have bad : mOK W H xs = false → mE W H xs = 2 := fun h => by unfold mE; rw [h]; rfl
 cases h1 : inT W 1 60 with
 | false =>
  rw [bad (by unfold mOK; rw [h1]; rfl)]
  try simp -implicitDefEqProofs (disch := first | decide | exact of_eq_true (eq_true rfl) | omega | assumption) only [ ↓vcD, vcE, ↓vcG, vcF, evs, evP, evB, intsOf, fillC, Value.cells, pt, Value.oneCell', reduceIte, reduceCtorEq, Nat.reduceEqDiff, Nat.reduceAdd, Nat.reduceMul, Nat.reduceLT, Nat.reduceBEq, Nat.reduceLeDiff, Nat.reduceSub]
  refine ITri.cond (v := true) rfl (fun _ => ?_) (fun h => by cases h)
  refine ITri.seq ?_
  refine ITri.reg pok ?_; simp -implicitDefEqProofs (disch := first | decide | exact of_eq_true (eq_true rfl) | omega | assumption) only [ ↓vcD, vcE, ↓vcG, vcF, evs, evP, evB, intsOf, fillC, Value.cells, pt, Value.oneCell', reduceIte, reduceCtorEq, Nat.reduceEqDiff, Nat.reduceAdd, Nat.reduceMul, Nat.reduceLT, Nat.reduceBEq, Nat.reduceLeDiff, Nat.reduceSub]
  refine ITri.ret ?_; exact EndR.plain (by simp) (by rfl) (by rfl) (by rfl)
 | true =>
  try simp -implicitDefEqProofs (disch := first | decide | exact of_eq_true (eq_true rfl) | omega | assumption) only [ ↓vcD, vcE, ↓vcG, vcF, evs, evP, evB, intsOf, fillC, Value.cells, pt, Value.oneCell', reduceIte, reduceCtorEq, Nat.reduceEqDiff, Nat.reduceAdd, Nat.reduceMul, Nat.reduceLT, Nat.reduceBEq, Nat.reduceLeDiff, Nat.reduceSub]
  refine ⟨_, _, in_f _ _ _ (sees0 rfl (of_decide_eq_true rfl)), ?_⟩
  cases h2 : inT H 1 60 with
  | false =>
   rw [bad (by unfold mOK; rw [h1, h2]; rfl)]
   try simp -implicitDefEqProofs (disch := first | decide | exact of_eq_true (eq_true rfl) | omega | assumption) only [ ↓vcD, vcE, ↓vcG, vcF, evs, evP, evB, intsOf, fillC, Value.cells, pt, Value.oneCell', reduceIte, reduceCtorEq, Nat.reduceEqDiff, Nat.reduceAdd, Nat.reduceMul, Nat.reduceLT, Nat.reduceBEq, Nat.reduceLeDiff, Nat.reduceSub]
   refine ITri.cond (v := true) rfl (fun _ => ?_) (fun h => by cases h)
   refine ITri.seq ?_
   refine ITri.reg pok ?_; simp -implicitDefEqProofs (disch := first | decide | exact of_eq_true (eq_true rfl) | omega | assumption) only [ ↓vcD, vcE, ↓vcG, vcF, evs, evP, evB, intsOf, fillC, Value.cells, pt, Value.oneCell', reduceIte, reduceCtorEq, Nat.reduceEqDiff, Nat.reduceAdd, Nat.reduceMul, Nat.reduceLT, Nat.reduceBEq, Nat.reduceLeDiff, Nat.reduceSub]
   refine ITri.ret ?_; exact EndR.plain (by simp) (by rfl) (by rfl) (by rfl)
  | true =>
   obtain ⟨m1, m2⟩ := mul_bd h1 h2
   by_cases h3 : (n : Int) = W * H
   ·simp -implicitDefEqProofs (disch := first | decide | exact of_eq_true (eq_true rfl) | omega | assumption) only [h3, decide_true, Bool.not_true, decide_false, not_true_eq_false, ne_eq,  ↓vcD, vcE, ↓vcG, vcF, evs, evP, evB, intsOf, fillC, Value.cells, pt, Value.oneCell', reduceIte, reduceCtorEq, Nat.reduceEqDiff, Nat.reduceAdd, Nat.reduceMul, Nat.reduceLT, Nat.reduceBEq, Nat.reduceLeDiff, Nat.reduceSub]
    refine ⟨_, _, containsC_x _ hn hb (by simp) rfl rfl, ?_⟩
    rw [any_not]
    cases h4 : xs.all fun r => inT r 0 7 with
    | true =>
     have ok : mE W H xs = 0 := by unfold mE mOK; rw [h1, h2, h4, hn, decide_eq_true h3]; rfl
     rw [ok]
     try simp -implicitDefEqProofs (disch := first | decide | exact of_eq_true (eq_true rfl) | omega | assumption) only [ ↓vcD, vcE, ↓vcG, vcF, evs, evP, evB, intsOf, fillC, Value.cells, pt, Value.oneCell', reduceIte, reduceCtorEq, Nat.reduceEqDiff, Nat.reduceAdd, Nat.reduceMul, Nat.reduceLT, Nat.reduceBEq, Nat.reduceLeDiff, Nat.reduceSub]
     refine ITri.cond (v := false) rfl (fun h => by cases h) (fun _ => ?_); refine ITri.skip ?_; simp only [SeqQ_normal, BlkQ_normal]
     refine ITri.seq ?_
     refine ITri.reg pok ?_; simp -implicitDefEqProofs (disch := first | decide | exact of_eq_true (eq_true rfl) | omega | assumption) only [ ↓vcD, vcE, ↓vcG, vcF, evs, evP, evB, intsOf, fillC, Value.cells, pt, Value.oneCell', reduceIte, reduceCtorEq, Nat.reduceEqDiff, Nat.reduceAdd, Nat.reduceMul, Nat.reduceLT, Nat.reduceBEq, Nat.reduceLeDiff, Nat.reduceSub]
     refine ITri.ret ?_; exact EndR.plain (by simp) (by rfl) (by rfl) (by rfl)
    | false =>
     rw [bad (by unfold mOK; rw [h4, Bool.and_false])]
     try simp -implicitDefEqProofs (disch := first | decide | exact of_eq_true (eq_true rfl) | omega | assumption) only [ ↓vcD, vcE, ↓vcG, vcF, evs, evP, evB, intsOf, fillC, Value.cells, pt, Value.oneCell', reduceIte, reduceCtorEq, Nat.reduceEqDiff, Nat.reduceAdd, Nat.reduceMul, Nat.reduceLT, Nat.reduceBEq, Nat.reduceLeDiff, Nat.reduceSub]
     refine ITri.cond (v := true) rfl (fun _ => ?_) (fun h => by cases h)
     refine ITri.seq ?_
     refine ITri.reg pok ?_; simp -implicitDefEqProofs (disch := first | decide | exact of_eq_true (eq_true rfl) | omega | assumption) only [ ↓vcD, vcE, ↓vcG, vcF, evs, evP, evB, intsOf, fillC, Value.cells, pt, Value.oneCell', reduceIte, reduceCtorEq, Nat.reduceEqDiff, Nat.reduceAdd, Nat.reduceMul, Nat.reduceLT, Nat.reduceBEq, Nat.reduceLeDiff, Nat.reduceSub]
     refine ITri.ret ?_; exact EndR.plain (by simp) (by rfl) (by rfl) (by rfl)
   ·rw [bad (by unfold mOK; rw [hn, decide_eq_false h3, Bool.and_false, Bool.false_and])]
    simp -implicitDefEqProofs (disch := first | decide | exact of_eq_true (eq_true rfl) | omega | assumption) only [h3, decide_true, Bool.not_true, decide_false, not_false_eq_true, ne_eq,  ↓vcD, vcE, ↓vcG, vcF, evs, evP, evB, intsOf, fillC, Value.cells, pt, Value.oneCell', reduceIte, reduceCtorEq, Nat.reduceEqDiff, Nat.reduceAdd, Nat.reduceMul, Nat.reduceLT, Nat.reduceBEq, Nat.reduceLeDiff, Nat.reduceSub]
    refine ITri.cond (v := true) rfl (fun _ => ?_) (fun h => by cases h)
    refine ITri.seq ?_
    refine ITri.reg pok ?_; simp -implicitDefEqProofs (disch := first | decide | exact of_eq_true (eq_true rfl) | omega | assumption) only [ ↓vcD, vcE, ↓vcG, vcF, evs, evP, evB, intsOf, fillC, Value.cells, pt, Value.oneCell', reduceIte, reduceCtorEq, Nat.reduceEqDiff, Nat.reduceAdd, Nat.reduceMul, Nat.reduceLT, Nat.reduceBEq, Nat.reduceLeDiff, Nat.reduceSub]
    refine ITri.ret ?_; exact EndR.plain (by simp) (by rfl) (by rfl) (by rfl)
end Go.Proofs.YtgjokhodccacoaaDoor
