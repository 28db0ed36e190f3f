/-
  Chapter 11, by names: what the reference says of charts.
-/
import Derived.Test.YtfmcdbcoljpomaaShopF3
set_option linter.unusedSimpArgs false
set_option linter.unusedVariables false
namespace Go.Vm
open Go Go.RowKit
/-- Two slices, the first one in a struct. -/
theorem MkL.ag2 {a b c : List Value} (ha : noAddrL a = true) (hb : noAddrL b = true) (hc : noAddrL c = true) : MkL (fun ss => .agg ⟨a ++ ss.take 1⟩ :: (b ++ ss.drop 1 ++ c)) :=
  ⟨fun ψ ss => by
    have e1 : ∀ x : List Value, noAddrL x = true → x.map (Vm.mw ψ) = x := fun x hx => by rw [← mwL_map', mwL_noAddr _ _ hx]
    simp only [mwL, Vm.mw, mwA, mwL_map', List.map_append, e1 a ha, e1 b hb, e1 c hc, List.map_take, List.map_drop], fun ξ B ss h => ⟨okML_app.2 ⟨okML_noAddr _ _ _ ha, okML_iff.2 fun v hv => h v (List.mem_of_mem_take hv)⟩, okML_app.2 ⟨okML_app.2 ⟨okML_noAddr _ _ _ hb, okML_iff.2 fun v hv => h v (List.mem_of_mem_drop hv)⟩, okML_noAddr _ _ _ hc⟩⟩⟩
/-- How a function ends that returns one of its own rows, with open room. -/
theorem end_own {P : Program} {rs : List ResultVar} {l : Fr} {L : List (Option AObj)} {k n b sz : Nat} {cs : List Value} (hk : b ≤ k) (hno : noAddrL cs = true) (hL : L[k]? = some (some (.cells ⟨cs, sz, true⟩))) (hr : resF P l (Hp b L) rs = some [.slice (some ⟨k, 0, none⟩) n openB]) :
    EndR P rs b [.cells ⟨cs, sz, true⟩] (.slice (some ⟨b, 0, none⟩) n openB) .ret l [] (Hp b L) := by
  refine ⟨by simp, rfl, [.slice (some ⟨k, 0, none⟩) n openB], [k], [], hr, rfl, by simp, by simpa using hk, (fun p hp => by cases hp), ?_, ?_, fun i o2 h => .inr ?_⟩
  · show _ = mvS .same ⟨(fun k' => if k' < b then k' else [k].getD (k' - b) 0) b, 0, none⟩ n openB
    simp [mvS]
    rfl
  · exact ⟨by simp, trivial⟩
  · match i, h with
    | 0, h =>
      cases h
      refine ⟨(by intro e; cases e), _, (by show (Hp b L).get k = _; rw [Hp_get, hL]; rfl), ?_⟩
      exact ⟨(mvL_noAddr _ _ _ hno).symm, okML_noAddr _ _ _ hno, fun e => e, fun e => ⟨e, rfl⟩⟩
/-- How a function ends that returns one of its own rows, with open room, and a number. -/
theorem end_own2 {P : Program} {rs : List ResultVar} {l : Fr} {L : List (Option AObj)} {k n b sz : Nat} {e : Int} {cs : List Value} (hk : b ≤ k) (hno : noAddrL cs = true) (hL : L[k]? = some (some (.cells ⟨cs, sz, true⟩))) (hr : resF P l (Hp b L) rs = some [.slice (some ⟨k, 0, none⟩) n openB, .int .i64 e]) :
    EndR P rs b [.cells ⟨cs, sz, true⟩] (.tuple #[.slice (some ⟨b, 0, none⟩) n openB, .int .i64 e]) .ret l [] (Hp b L) := by
  refine ⟨by simp, rfl, _, [k], [], hr, rfl, by simp, by simpa using hk, (fun p hp => by cases hp), ?_, ?_, fun i o2 h => .inr ?_⟩
  · show Value.tuple #[_, _] = .tuple ⟨[mvS .same ⟨(fun k' => if k' < b then k' else [k].getD (k' - b) 0) b, 0, none⟩ n openB, _]⟩
    simp [mvS]
    rfl
  · exact ⟨⟨by simp, trivial⟩, trivial, trivial⟩
  · match i, h with
    | 0, h =>
      cases h
      refine ⟨(by intro e; cases e), _, (by show (Hp b L).get k = _; rw [Hp_get, hL]; rfl), ?_⟩
      exact ⟨(mvL_noAddr _ _ _ hno).symm, okML_noAddr _ _ _ hno, fun e => e, fun e => ⟨e, rfl⟩⟩
end Go.Vm
namespace Go.Proofs.Ytfmcdbcoljpomaa
open Go.RowKit Go.Vm
set_option maxRecDepth 100000
/- boule/bouleref11.Speaks · slots 57 · names 0:c 1:r 2:values 3:side 4:c 5:r 6:values 7:side 9:many 10:i · results [8] -/
def ir97_r0 : IC := .reg [⟨some 4, none, false, .box (.t 0)⟩,
  ⟨some 5, none, false, .box (.t 1)⟩,
  ⟨some 8, none, false, .mv (.k (.bool false))⟩] (some [2, 3, 4, 5])
def ir97_r1 : IC := .reg [⟨some 9, none, false, .mv (.k (.int .i64 0))⟩] (some [2, 3, 4, 5, 9])
def ir97_r2 : IC := .reg [⟨some 11, none, false, .mv (.t 2)⟩,
  ⟨some 12, none, false, .len (.t 11)⟩,
  ⟨some 13, none, false, .fad 1 (.t 5)⟩,
  ⟨some 14, none, false, .ldc (.t 13)⟩,
  ⟨some 15, none, false, .ar .sub (.t 12) (.t 14)⟩,
  ⟨some 16, none, false, .mm false [(.k (.int .i64 0)), (.t 15)]⟩,
  ⟨some 10, none, false, .mv (.t 16)⟩] (some [2, 3, 4, 5, 9, 10])
def ir97_r3 : IC := .reg [⟨some 17, none, false, .mv (.t 10)⟩,
  ⟨some 18, none, false, .mv (.t 2)⟩,
  ⟨some 19, none, false, .len (.t 18)⟩,
  ⟨some 20, none, false, .cmp .lss (.t 17) (.t 19)⟩] (some [2, 3, 4, 5, 9, 10, 20])
def ir97_1 : IC := .cond (.t 20) .skip (.exit 0)
def ir97_2 : IC := .seq ir97_r3 ir97_1
def ir97_r5 : IC := .draw [(⟨some 23, none, false, .mv (.t 3)⟩, false, 0, 0),
  (⟨some 24, none, false, .mv (.t 2)⟩, false, 0, 0),
  (⟨some 25, none, false, .mv (.t 10)⟩, false, 0, 0),
  (⟨some 26, none, false, .iad 1 (.t 24) (.t 25)⟩, false, 6, 0),
  (⟨some 27, none, false, .ldc (.t 26)⟩, false, 14, 1),
  (⟨some 28, none, false, .fad 0 (.t 4)⟩, false, 0, 0),
  (⟨some 29, none, false, .ldc (.t 28)⟩, false, 32, 15),
  (⟨some 30, none, false, .ar .sub (.t 27) (.t 29)⟩, false, 126, 0),
  (⟨some 31, none, false, .ar .mul (.t 23) (.t 30)⟩, false, 255, 0),
  (⟨some 32, none, false, .fad 2 (.t 5)⟩, false, 0, 0),
  (⟨some 33, none, false, .ldc (.t 32)⟩, false, 512, 47),
  (⟨some 34, none, false, .cmp .gtr (.t 31) (.t 33)⟩, false, 2047, 0)] (some [2, 3, 4, 5, 9, 10, 34])
def ir97_r6 : IC := .reg [⟨some 35, none, false, .mv (.t 9)⟩,
  ⟨some 36, none, false, .ar .add (.t 35) (.k (.int .i64 1))⟩,
  ⟨some 9, none, false, .mv (.t 36)⟩] (some [2, 3, 4, 5, 9, 10])
def ir97_3 : IC := .cond (.t 34) ir97_r6 .skip
def ir97_4 : IC := .seq ir97_r5 ir97_3
def ir97_5 : IC := .block 1 ir97_4
def ir97_r4 : IC := .reg [⟨some 21, none, false, .mv (.t 10)⟩,
  ⟨some 22, none, false, .ar .add (.t 21) (.k (.int .i64 1))⟩,
  ⟨some 10, none, false, .mv (.t 22)⟩] (some [2, 3, 4, 5, 9, 10])
def ir97_6 : IC := .seq ir97_5 ir97_r4
def ir97_7 : IC := .seq ir97_2 ir97_6
def ir97_8 : IC := .loop ir97_7
def ir97_9 : IC := .block 0 ir97_8
def ir97_10 : IC := .seq ir97_r2 ir97_9
def ir97_r7 : IC := .draw [(⟨some 37, none, false, .mv (.t 9)⟩, false, 0, 0),
  (⟨some 38, none, false, .fad 0 (.t 5)⟩, false, 0, 0),
  (⟨some 39, none, false, .ldc (.t 38)⟩, true, 2, 1),
  (⟨some 40, none, false, .cmp .geq (.t 37) (.t 39)⟩, false, 7, 0),
  (⟨some 41, none, false, .mv (.t 40)⟩, false, 15, 0),
  (⟨some 42, some (41, true), false, .mv (.t 3)⟩, false, 31, 0),
  (⟨some 43, some (41, true), false, .mv (.t 2)⟩, false, 31, 0),
  (⟨some 44, some (41, true), false, .mv (.t 2)⟩, false, 31, 0),
  (⟨some 45, some (41, true), false, .len (.t 44)⟩, false, 159, 1),
  (⟨some 46, some (41, true), false, .ar .sub (.t 45) (.k (.int .i64 1))⟩, false, 415, 0),
  (⟨some 47, some (41, true), false, .iad 1 (.t 43) (.t 46)⟩, false, 991, 0),
  (⟨some 48, some (41, true), false, .ldc (.t 47)⟩, false, 2015, 1),
  (⟨some 49, some (41, true), false, .fad 0 (.t 4)⟩, false, 31, 0),
  (⟨some 50, some (41, true), false, .ldc (.t 49)⟩, false, 4127, 2016),
  (⟨some 51, some (41, true), false, .ar .sub (.t 48) (.t 50)⟩, false, 16351, 0),
  (⟨some 52, some (41, true), false, .ar .mul (.t 42) (.t 51)⟩, false, 32767, 0),
  (⟨some 53, some (41, true), false, .fad 2 (.t 5)⟩, false, 31, 0),
  (⟨some 54, some (41, true), false, .ldc (.t 53)⟩, false, 65567, 6112),
  (⟨some 55, some (41, true), false, .cmp .gtr (.t 52) (.t 54)⟩, false, 262143, 0),
  (⟨some 56, none, false, .pick (.t 41) (.t 55) (.k (.bool false))⟩, false, 524287, 0),
  (⟨some 8, none, false, .mv (.t 56)⟩, false, 1048575, 0)] (some [8])
def ir97_11 : IC := .seq ir97_r7 .ret
def ir97_12 : IC := .seq ir97_10 ir97_11
def ir97_13 : IC := .seq ir97_r1 ir97_12
def ir97_14 : IC := .seq ir97_r0 ir97_13
def ir97 : IC := ir97_14
theorem fn97 : FnIs Try.prog 97 ir97 57 [.tmp 8] := ⟨Try.f97, Try.f97.body.getD .skip, Try.func97, by kernel_rfl, by kernel_rfl, by kernel_rfl, by kernel_rfl⟩
/- boule/bouleref11.At · slots 39 · names 0:c 1:values 2:c 3:values 5:out 6:k 7:side · results [4] -/
def ir49_r0 : IC := .reg [⟨some 2, none, false, .box (.t 0)⟩,
  ⟨some 4, none, false, .mv (.k (.slice none 0 0))⟩] (some [1, 2])
def ir49_r1 : IC := .reg [⟨some 8, none, false, .bsl 3 0 [] []⟩,
  ⟨some 5, none, false, .mv (.t 8)⟩] (some [1, 2, 5])
def ir49_r2 : IC := .reg [⟨some 6, none, false, .mv (.k (.int .i64 0))⟩] (some [1, 2, 5, 6])
def ir49_r3 : IC := .reg [⟨some 9, none, false, .mv (.t 6)⟩,
  ⟨some 10, none, false, .fad 1 (.t 2)⟩,
  ⟨some 11, none, false, .ldc (.t 10)⟩,
  ⟨some 12, none, false, .len (.t 11)⟩,
  ⟨some 13, none, false, .cmp .lss (.t 9) (.t 12)⟩] (some [1, 2, 5, 6, 13])
def ir49_1 : IC := .cond (.t 13) .skip (.exit 0)
def ir49_2 : IC := .seq ir49_r3 ir49_1
def ir49_r5 : IC := .reg [⟨some 7, none, false, .mv (.k (.int .i64 1))⟩] (some [1, 2, 5, 6, 7])
def ir49_r6 : IC := .reg [⟨some 16, none, false, .mv (.t 7)⟩,
  ⟨some 17, none, false, .cmp .geq (.t 16) (.k (.int .i64 (-1)))⟩] (some [1, 2, 5, 6, 7, 17])
def ir49_3 : IC := .cond (.t 17) .skip (.exit 2)
def ir49_4 : IC := .seq ir49_r6 ir49_3
def ir49_r8 : IC := .draw [(⟨some 20, none, false, .lda 2 (.t 2)⟩, false, 0, 1),
  (⟨some 21, none, false, .fad 1 (.t 2)⟩, false, 0, 0),
  (⟨some 22, none, false, .ldc (.t 21)⟩, false, 2, 1),
  (⟨some 23, none, false, .mv (.t 6)⟩, false, 0, 0),
  (⟨some 24, none, false, .iad 3 (.t 22) (.t 23)⟩, false, 14, 0),
  (⟨some 25, none, false, .lda 3 (.t 24)⟩, false, 30, 1),
  (⟨some 26, none, false, .mv (.t 1)⟩, false, 0, 0),
  (⟨some 27, none, false, .mv (.t 7)⟩, false, 0, 0),
  (⟨some 28, none, false, .call (.f 97) [(.t 20), (.t 25), (.t 26), (.t 27)]⟩, true, 255, 1)] (some [1, 2, 5, 6, 7, 28])
def ir49_r9 : IC := .reg [⟨some 29, none, false, .mv (.t 5)⟩,
  ⟨some 30, none, false, .mv (.t 1)⟩,
  ⟨some 31, none, false, .len (.t 30)⟩,
  ⟨some 32, none, false, .ar .sub (.t 31) (.k (.int .i64 1))⟩,
  ⟨some 33, none, false, .mv (.t 6)⟩,
  ⟨some 34, none, false, .mv (.t 7)⟩,
  ⟨some 35, none, false, .bld [(.int .i64 0), (.int .i64 0), (.int .i64 0)] [(0, 1, (.t 32)), (1, 1, (.t 33)), (2, 1, (.t 34))]⟩,
  ⟨some 36, none, false, .bsl 3 1 [(.int .i64 0), (.int .i64 0), (.int .i64 0)] [(0, (.t 35))]⟩,
  ⟨some 37, none, false, .app 3 24 (.t 29) (.t 36)⟩,
  ⟨some 5, none, false, .mv (.t 37)⟩] (some [1, 2, 5, 6, 7])
def ir49_5 : IC := .cond (.t 28) ir49_r9 .skip
def ir49_6 : IC := .seq ir49_r8 ir49_5
def ir49_7 : IC := .block 3 ir49_6
def ir49_r7 : IC := .reg [⟨some 18, none, false, .mv (.t 7)⟩,
  ⟨some 19, none, false, .ar .sub (.t 18) (.k (.int .i64 2))⟩,
  ⟨some 7, none, false, .mv (.t 19)⟩] (some [1, 2, 5, 6, 7])
def ir49_8 : IC := .seq ir49_7 ir49_r7
def ir49_9 : IC := .seq ir49_4 ir49_8
def ir49_10 : IC := .loop ir49_9
def ir49_11 : IC := .block 2 ir49_10
def ir49_12 : IC := .seq ir49_r5 ir49_11
def ir49_13 : IC := .block 1 ir49_12
def ir49_r4 : IC := .reg [⟨some 14, none, false, .mv (.t 6)⟩,
  ⟨some 15, none, false, .ar .add (.t 14) (.k (.int .i64 1))⟩,
  ⟨some 6, none, false, .mv (.t 15)⟩] (some [1, 2, 5, 6])
def ir49_14 : IC := .seq ir49_13 ir49_r4
def ir49_15 : IC := .seq ir49_2 ir49_14
def ir49_16 : IC := .loop ir49_15
def ir49_17 : IC := .block 0 ir49_16
def ir49_18 : IC := .seq ir49_r2 ir49_17
def ir49_r10 : IC := .reg [⟨some 38, none, false, .mv (.t 5)⟩,
  ⟨some 4, none, false, .mv (.t 38)⟩] (some [4])
def ir49_19 : IC := .seq ir49_r10 .ret
def ir49_20 : IC := .seq ir49_18 ir49_19
def ir49_21 : IC := .seq ir49_r1 ir49_20
def ir49_22 : IC := .seq ir49_r0 ir49_21
def ir49 : IC := ir49_22
theorem fn49 : FnIs Try.prog 49 ir49 39 [.tmp 4] := ⟨Try.f49, Try.f49.body.getD .skip, Try.func49, by kernel_rfl, by kernel_rfl, by kernel_rfl, by kernel_rfl⟩
/- boule/bouleref11.Alarms · slots 43 · names 0:c 1:values 2:c 3:values 6:i 7:out 8:i · results [4, 5] -/
def ir15_r0 : IC := .reg [⟨some 2, none, false, .box (.t 0)⟩,
  ⟨some 4, none, false, .mv (.k (.slice none 0 0))⟩,
  ⟨some 5, none, false, .mv (.k (.int .i64 0))⟩] (some [1, 2])
def ir15_r1 : IC := .reg [⟨some 9, none, false, .lda 2 (.t 2)⟩,
  ⟨some 10, none, false, .call (.f 16) [(.t 9)]⟩,
  ⟨some 11, none, false, .not (.t 10)⟩] (some [1, 2, 11])
def ir15_r2 : IC := .reg [⟨some 4, none, false, .mv (.k (.slice none 0 0))⟩,
  ⟨some 5, none, false, .mv (.k (.int .i64 2))⟩] (some [4, 5])
def ir15_1 : IC := .seq ir15_r2 .ret
def ir15_2 : IC := .cond (.t 11) ir15_1 .skip
def ir15_3 : IC := .seq ir15_r1 ir15_2
def ir15_r3 : IC := .reg [⟨some 12, none, false, .mv (.t 1)⟩,
  ⟨some 13, none, false, .len (.t 12)⟩,
  ⟨some 14, none, false, .cmp .gtr (.t 13) (.k (.int .i64 200))⟩] (some [1, 2, 14])
def ir15_r4 : IC := .reg [⟨some 4, none, false, .mv (.k (.slice none 0 0))⟩,
  ⟨some 5, none, false, .mv (.k (.int .i64 5))⟩] (some [4, 5])
def ir15_4 : IC := .seq ir15_r4 .ret
def ir15_5 : IC := .cond (.t 14) ir15_4 .skip
def ir15_6 : IC := .seq ir15_r3 ir15_5
def ir15_r5 : IC := .reg [⟨some 6, none, false, .mv (.k (.int .i64 0))⟩] (some [1, 2, 6])
def ir15_r6 : IC := .reg [⟨some 15, none, false, .mv (.t 6)⟩,
  ⟨some 16, none, false, .mv (.t 1)⟩,
  ⟨some 17, none, false, .len (.t 16)⟩,
  ⟨some 18, none, false, .cmp .lss (.t 15) (.t 17)⟩] (some [1, 2, 6, 18])
def ir15_7 : IC := .cond (.t 18) .skip (.exit 0)
def ir15_8 : IC := .seq ir15_r6 ir15_7
def ir15_r8 : IC := .reg [⟨some 21, none, false, .mv (.t 1)⟩,
  ⟨some 22, none, false, .mv (.t 6)⟩,
  ⟨some 23, none, false, .iad 1 (.t 21) (.t 22)⟩,
  ⟨some 24, none, false, .ldc (.t 23)⟩,
  ⟨some 25, none, false, .call (.f 48) [(.t 24), (.k (.int .i64 (-1000000))), (.k (.int .i64 1000000))]⟩,
  ⟨some 26, none, false, .not (.t 25)⟩] (some [1, 2, 6, 26])
def ir15_r9 : IC := .reg [⟨some 4, none, false, .mv (.k (.slice none 0 0))⟩,
  ⟨some 5, none, false, .mv (.k (.int .i64 3))⟩] (some [4, 5])
def ir15_9 : IC := .seq ir15_r9 .ret
def ir15_10 : IC := .cond (.t 26) ir15_9 .skip
def ir15_11 : IC := .seq ir15_r8 ir15_10
def ir15_12 : IC := .block 1 ir15_11
def ir15_r7 : IC := .reg [⟨some 19, none, false, .mv (.t 6)⟩,
  ⟨some 20, none, false, .ar .add (.t 19) (.k (.int .i64 1))⟩,
  ⟨some 6, none, false, .mv (.t 20)⟩] (some [1, 2, 6])
def ir15_13 : IC := .seq ir15_12 ir15_r7
def ir15_14 : IC := .seq ir15_8 ir15_13
def ir15_15 : IC := .loop ir15_14
def ir15_16 : IC := .block 0 ir15_15
def ir15_17 : IC := .seq ir15_r5 ir15_16
def ir15_r10 : IC := .reg [⟨some 27, none, false, .bsl 3 0 [] []⟩,
  ⟨some 7, none, false, .mv (.t 27)⟩] (some [1, 2, 7])
def ir15_r11 : IC := .reg [⟨some 8, none, false, .mv (.k (.int .i64 0))⟩] (some [1, 2, 7, 8])
def ir15_r12 : IC := .reg [⟨some 28, none, false, .mv (.t 8)⟩,
  ⟨some 29, none, false, .mv (.t 1)⟩,
  ⟨some 30, none, false, .len (.t 29)⟩,
  ⟨some 31, none, false, .cmp .lss (.t 28) (.t 30)⟩] (some [1, 2, 7, 8, 31])
def ir15_18 : IC := .cond (.t 31) .skip (.exit 2)
def ir15_19 : IC := .seq ir15_r12 ir15_18
def ir15_r14 : IC := .draw [(⟨some 34, none, false, .mv (.t 7)⟩, false, 0, 0),
  (⟨some 35, none, false, .lda 2 (.t 2)⟩, false, 0, 1),
  (⟨some 36, none, false, .mv (.t 1)⟩, false, 0, 0),
  (⟨some 37, none, false, .mv (.t 8)⟩, false, 0, 0),
  (⟨some 38, none, false, .ar .add (.t 37) (.k (.int .i64 1))⟩, false, 8, 0),
  (⟨some 39, none, false, .gen (.slice 25 (.tmp 36) none (some (.tmp 38)) none)⟩, false, 28, 1),
  (⟨some 40, none, false, .call (.f 49) [(.t 35), (.t 39)]⟩, true, 62, 1),
  (⟨some 41, none, false, .app 3 24 (.t 34) (.t 40)⟩, true, 127, 1),
  (⟨some 7, none, false, .mv (.t 41)⟩, false, 255, 0)] (some [1, 2, 7, 8])
def ir15_20 : IC := .block 3 ir15_r14
def ir15_r13 : IC := .reg [⟨some 32, none, false, .mv (.t 8)⟩,
  ⟨some 33, none, false, .ar .add (.t 32) (.k (.int .i64 1))⟩,
  ⟨some 8, none, false, .mv (.t 33)⟩] (some [1, 2, 7, 8])
def ir15_21 : IC := .seq ir15_20 ir15_r13
def ir15_22 : IC := .seq ir15_19 ir15_21
def ir15_23 : IC := .loop ir15_22
def ir15_24 : IC := .block 2 ir15_23
def ir15_25 : IC := .seq ir15_r11 ir15_24
def ir15_r15 : IC := .reg [⟨some 42, none, false, .mv (.t 7)⟩,
  ⟨some 4, none, false, .mv (.t 42)⟩,
  ⟨some 5, none, false, .mv (.k (.int .i64 0))⟩] (some [4, 5])
def ir15_26 : IC := .seq ir15_r15 .ret
def ir15_27 : IC := .seq ir15_25 ir15_26
def ir15_28 : IC := .seq ir15_r10 ir15_27
def ir15_29 : IC := .seq ir15_17 ir15_28
def ir15_30 : IC := .seq ir15_6 ir15_29
def ir15_31 : IC := .seq ir15_3 ir15_30
def ir15_32 : IC := .seq ir15_r0 ir15_31
def ir15 : IC := ir15_32
theorem fn15 : FnIs Try.prog 15 ir15 43 [.tmp 4, .tmp 5] := ⟨Try.f15, Try.f15.body.getD .skip, Try.func15, by kernel_rfl, by kernel_rfl, by kernel_rfl, by kernel_rfl⟩
theorem many_step {c : Int} {r : Ru} {s : Int} {vs : List Int} {i j : Nat} (hj : j ≤ i) (hi : i < vs.length) : ((vs.take (i + 1)).drop j).countP (farB c r s) = ((vs.take i).drop j).countP (farB c r s) + if farB c r s (nth vs i) = true then 1 else 0 := by
  rw [List.take_add_one, get_nth hi, List.drop_append_of_le_length (by rw [List.length_take]; omega), List.countP_append]
  congr 1
  simp [List.countP_cons]
theorem speaks_c (n c m d : Nat) (cen : Int) (rs : List Ru) (r : Ru) (vs : List Int) (s : Int) (hm : vs.length = m) (h1 : 1 ≤ m) (h2 : m ≤ 200) (hc : -1000000 ≤ cen ∧ cen ≤ 1000000) (hv : ∀ v ∈ vs, -1000000 ≤ v ∧ v ≤ 1000000) (hr : ruOK r = true) (hs : s = 1 ∨ s = -1) :
    Fc Try.prog 97 [.agg #[.int .i64 cen, .slice (some ⟨1, 0, none⟩) n c], uV r, .slice (some ⟨2, 0, none⟩) m d, .int .i64 s] (Hp 3 [none, some (.cells ⟨rows eU rs, 0, false⟩), some (.cells ⟨rows eN vs, 0, false⟩)]) (.bool (spkR cen r s vs)) (Hp 3 [none, some (.cells ⟨rows eU rs, 0, false⟩), some (.cells ⟨rows eN vs, 0, false⟩)]) := by
  obtain ⟨of, last, far⟩ := r
  obtain ⟨b1, b2, b3, b4, b5⟩ := ruOK_ok hr
  simp only at b1 b2 b3 b4 b5
  refine Fc.intro0 fn97 (by simp) rfl rfl ?_; simp only [argF]
  refine ITri.seq ?_
  refine ITri.reg pokT ?_; simp -implicitDefEqProofs (disch := first | decide | exact of_eq_true (eq_true rfl) | omega | assumption) only [ ↓vcD, vcE, evs, evP, evB, intsOf, fillC, Value.cells, pt, List.append_nil, List.nil_append, List.cons_append, List.length_cons, List.length_nil, List.filter_nil, List.map_nil, ↓List.getElem?_cons_zero, ↓List.getElem?_cons_succ, List.getElem?_cons_zero, List.getElem?_cons_succ, List.set_cons_zero, List.set_cons_succ, Option.join_some, Option.join_none, Option.map_some, List.all_cons, List.all_nil, Value.oneCell', reduceIte, reduceCtorEq, Nat.reduceEqDiff, Nat.reduceAdd, Nat.reduceMul, Nat.reduceLT, Nat.reduceBEq, Nat.reduceLeDiff, Nat.reduceSub, List.size_toArray] -- r0
  refine ITri.seq ?_
  refine ITri.reg pokT ?_; simp -implicitDefEqProofs (disch := first | decide | exact of_eq_true (eq_true rfl) | omega | assumption) only [ ↓vcD, vcE, evs, evP, evB, intsOf, fillC, Value.cells, pt, List.append_nil, List.nil_append, List.cons_append, List.length_cons, List.length_nil, List.filter_nil, List.map_nil, ↓List.getElem?_cons_zero, ↓List.getElem?_cons_succ, List.getElem?_cons_zero, List.getElem?_cons_succ, List.set_cons_zero, List.set_cons_succ, Option.join_some, Option.join_none, Option.map_some, List.all_cons, List.all_nil, Value.oneCell', reduceIte, reduceCtorEq, Nat.reduceEqDiff, Nat.reduceAdd, Nat.reduceMul, Nat.reduceLT, Nat.reduceBEq, Nat.reduceLeDiff, Nat.reduceSub, List.size_toArray] -- r1
  refine ITri.seq ?_
  refine ITri.seq ?_
  refine ITri.reg pokT ?_; simp -implicitDefEqProofs (disch := first | decide | exact of_eq_true (eq_true rfl) | omega | assumption) only [ ↓vcD, vcE, evs, evP, evB, intsOf, fillC, Value.cells, pt, List.append_nil, List.nil_append, List.cons_append, List.length_cons, List.length_nil, List.filter_nil, List.map_nil, ↓List.getElem?_cons_zero, ↓List.getElem?_cons_succ, List.getElem?_cons_zero, List.getElem?_cons_succ, List.set_cons_zero, List.set_cons_succ, Option.join_some, Option.join_none, Option.map_some, List.all_cons, List.all_nil, Value.oneCell', reduceIte, reduceCtorEq, Nat.reduceEqDiff, Nat.reduceAdd, Nat.reduceMul, Nat.reduceLT, Nat.reduceBEq, Nat.reduceLeDiff, Nat.reduceSub, List.size_toArray] -- r2
  obtain ⟨j, hj⟩ : ∃ j : Nat, max 0 ((m : Int) - last) = j := ⟨((m : Int) - last).toNat, by omega⟩
  have hjm : j ≤ m := by omega
  have hj2 : ((vs.length : Int) - last).toNat = j := by omega
  rw [hj]
  refine ITri.block ?_
  refine ITri.loop (fun i : Nat => [(2, .slice (some ⟨2, 0, none⟩) m d), (3, .int .i64 s), (4, pt 3), (5, pt 4), (9, .int .i64 (((vs.take i).drop j).countP (farB cen (of, last, far) s) : Nat)), (10, .int .i64 i)]) (fun _ => []) (fun i => Hp 3 [none, some (.cells ⟨rows eU rs, 0, false⟩), some (.cells ⟨rows eN vs, 0, false⟩), some (.cells ⟨[.int .i64 cen, .slice (some ⟨1, 0, none⟩) n c], 1, false⟩), some (.cells ⟨[.int .i64 of, .int .i64 last, .int .i64 far], 1, false⟩)]) (fun i => j ≤ i ∧ i ≤ m) (fun i => m - i) j ⟨Nat.le_refl _, hjm⟩ (by rw [List.drop_of_length_le (by rw [List.length_take]; omega)]; exact Wk.sub ⟨rfl, rfl, rfl, rfl, rfl, rfl, trivial⟩) fun i hi => ?_
  obtain ⟨hi1, hi2⟩ := hi
  refine ITri.seq ?_
  refine ITri.seq ?_
  refine ITri.reg pokT ?_; simp -implicitDefEqProofs (disch := first | decide | exact of_eq_true (eq_true rfl) | omega | assumption) only [ ↓vcD, vcE, evs, evP, evB, intsOf, fillC, Value.cells, pt, List.append_nil, List.nil_append, List.cons_append, List.length_cons, List.length_nil, List.filter_nil, List.map_nil, ↓List.getElem?_cons_zero, ↓List.getElem?_cons_succ, List.getElem?_cons_zero, List.getElem?_cons_succ, List.set_cons_zero, List.set_cons_succ, Option.join_some, Option.join_none, Option.map_some, List.all_cons, List.all_nil, Value.oneCell', reduceIte, reduceCtorEq, Nat.reduceEqDiff, Nat.reduceAdd, Nat.reduceMul, Nat.reduceLT, Nat.reduceBEq, Nat.reduceLeDiff, Nat.reduceSub, List.size_toArray] -- r3
  refine ITri.condD (by rfl) (fun h3 => ?_) (fun h3 => ?_)
  · have him : i < vs.length := by omega
    obtain ⟨v, hvi⟩ : ∃ v, nth vs i = v := ⟨_, rfl⟩
    have hvb := hv _ (nth_mem him)
    have gv : (rows eN vs)[i]? = some (.int .i64 v) := by rw [getN him, hvi]
    have hst := many_step (c := cen) (r := (of, last, far)) (s := s) hi1 him
    rw [hvi] at hst hvb
    have hcl : ((vs.take i).drop j).countP (farB cen (of, last, far) s) ≤ m := by
      refine Nat.le_trans (List.countP_le_length ..) ?_
      rw [List.length_drop, List.length_take]
      omega
    generalize hN : ((vs.take i).drop j).countP (farB cen (of, last, far) s) = N at *
    refine ITri.skip ?_; simp only [SeqQ_normal, BlkQ_normal]
    refine ITri.seq ?_
    refine ITri.block ?_
    refine ITri.cut (fun _ : Unit => [(2, .slice (some ⟨2, 0, none⟩) m d), (3, .int .i64 s), (4, pt 3), (5, pt 4), (9, .int .i64 (((vs.take (i + 1)).drop j).countP (farB cen (of, last, far) s) : Nat)), (10, .int .i64 i)]) (fun _ => []) (fun _ => Hp 3 [none, some (.cells ⟨rows eU rs, 0, false⟩), some (.cells ⟨rows eN vs, 0, false⟩), some (.cells ⟨[.int .i64 cen, .slice (some ⟨1, 0, none⟩) n c], 1, false⟩), some (.cells ⟨[.int .i64 of, .int .i64 last, .int .i64 far], 1, false⟩)]) (fun _ => True) ?_ (fun _ _ => ?_)
    · rw [hst]
      have hfd : farB cen (of, last, far) s v = decide (far < s * (v - cen)) := rfl
      rw [hfd]
      refine ITri.seq ?_
      rcases hs with rfl | rfl
      · refine ITri.draw pokT ?_; simp -implicitDefEqProofs (disch := first | decide | exact of_eq_true (eq_true rfl) | omega | assumption) only [gv, Int.one_mul,  ↓vcD, vcE, evs, evP, evB, intsOf, fillC, Value.cells, pt, List.append_nil, List.nil_append, List.cons_append, List.length_cons, List.length_nil, List.filter_nil, List.map_nil, ↓List.getElem?_cons_zero, ↓List.getElem?_cons_succ, List.getElem?_cons_zero, List.getElem?_cons_succ, List.set_cons_zero, List.set_cons_succ, Option.join_some, Option.join_none, Option.map_some, List.all_cons, List.all_nil, Value.oneCell', reduceIte, reduceCtorEq, Nat.reduceEqDiff, Nat.reduceAdd, Nat.reduceMul, Nat.reduceLT, Nat.reduceBEq, Nat.reduceLeDiff, Nat.reduceSub, List.size_toArray] -- r5
        refine ITri.condD (by rfl) (fun h4 => ?_) (fun h4 => ?_)
        · refine ITri.reg pokT ?_; simp -implicitDefEqProofs (disch := first | decide | exact of_eq_true (eq_true rfl) | omega | assumption) only [ ↓vcD, vcE, evs, evP, evB, intsOf, fillC, Value.cells, pt, List.append_nil, List.nil_append, List.cons_append, List.length_cons, List.length_nil, List.filter_nil, List.map_nil, ↓List.getElem?_cons_zero, ↓List.getElem?_cons_succ, List.getElem?_cons_zero, List.getElem?_cons_succ, List.set_cons_zero, List.set_cons_succ, Option.join_some, Option.join_none, Option.map_some, List.all_cons, List.all_nil, Value.oneCell', reduceIte, reduceCtorEq, Nat.reduceEqDiff, Nat.reduceAdd, Nat.reduceMul, Nat.reduceLT, Nat.reduceBEq, Nat.reduceLeDiff, Nat.reduceSub, List.size_toArray]
          rw [if_pos (decide_eq_true (by omega))]
          exact CutQ.mk () trivial (Wk.sub ⟨rfl, rfl, rfl, rfl, rfl, rfl, trivial⟩)
        · rw [if_neg (by rw [decide_eq_true_eq]; omega)]
          refine ITri.skip ?_
          exact CutQ.mk () trivial (Wk.sub ⟨rfl, rfl, rfl, rfl, rfl, rfl, trivial⟩)
      · refine ITri.draw pokT ?_; simp -implicitDefEqProofs (disch := first | decide | exact of_eq_true (eq_true rfl) | omega | assumption) only [gv, Int.neg_one_mul,  ↓vcD, vcE, evs, evP, evB, intsOf, fillC, Value.cells, pt, List.append_nil, List.nil_append, List.cons_append, List.length_cons, List.length_nil, List.filter_nil, List.map_nil, ↓List.getElem?_cons_zero, ↓List.getElem?_cons_succ, List.getElem?_cons_zero, List.getElem?_cons_succ, List.set_cons_zero, List.set_cons_succ, Option.join_some, Option.join_none, Option.map_some, List.all_cons, List.all_nil, Value.oneCell', reduceIte, reduceCtorEq, Nat.reduceEqDiff, Nat.reduceAdd, Nat.reduceMul, Nat.reduceLT, Nat.reduceBEq, Nat.reduceLeDiff, Nat.reduceSub, List.size_toArray] -- r5
        refine ITri.condD (by rfl) (fun h4 => ?_) (fun h4 => ?_)
        · refine ITri.reg pokT ?_; simp -implicitDefEqProofs (disch := first | decide | exact of_eq_true (eq_true rfl) | omega | assumption) only [ ↓vcD, vcE, evs, evP, evB, intsOf, fillC, Value.cells, pt, List.append_nil, List.nil_append, List.cons_append, List.length_cons, List.length_nil, List.filter_nil, List.map_nil, ↓List.getElem?_cons_zero, ↓List.getElem?_cons_succ, List.getElem?_cons_zero, List.getElem?_cons_succ, List.set_cons_zero, List.set_cons_succ, Option.join_some, Option.join_none, Option.map_some, List.all_cons, List.all_nil, Value.oneCell', reduceIte, reduceCtorEq, Nat.reduceEqDiff, Nat.reduceAdd, Nat.reduceMul, Nat.reduceLT, Nat.reduceBEq, Nat.reduceLeDiff, Nat.reduceSub, List.size_toArray]
          rw [if_pos (decide_eq_true (by omega))]
          exact CutQ.mk () trivial (Wk.sub ⟨rfl, rfl, rfl, rfl, rfl, rfl, trivial⟩)
        · rw [if_neg (by rw [decide_eq_true_eq]; omega)]
          refine ITri.skip ?_
          exact CutQ.mk () trivial (Wk.sub ⟨rfl, rfl, rfl, rfl, rfl, rfl, trivial⟩)
    try simp -implicitDefEqProofs (disch := first | decide | exact of_eq_true (eq_true rfl) | omega | assumption) only [ ↓vcD, vcE, evs, evP, evB, intsOf, fillC, Value.cells, pt, List.append_nil, List.nil_append, List.cons_append, List.length_cons, List.length_nil, List.filter_nil, List.map_nil, ↓List.getElem?_cons_zero, ↓List.getElem?_cons_succ, List.getElem?_cons_zero, List.getElem?_cons_succ, List.set_cons_zero, List.set_cons_succ, Option.join_some, Option.join_none, Option.map_some, List.all_cons, List.all_nil, Value.oneCell', reduceIte, reduceCtorEq, Nat.reduceEqDiff, Nat.reduceAdd, Nat.reduceMul, Nat.reduceLT, Nat.reduceBEq, Nat.reduceLeDiff, Nat.reduceSub, List.size_toArray]
    refine ITri.reg pokT ?_; simp -implicitDefEqProofs (disch := first | decide | exact of_eq_true (eq_true rfl) | omega | assumption) only [ ↓vcD, vcE, evs, evP, evB, intsOf, fillC, Value.cells, pt, List.append_nil, List.nil_append, List.cons_append, List.length_cons, List.length_nil, List.filter_nil, List.map_nil, ↓List.getElem?_cons_zero, ↓List.getElem?_cons_succ, List.getElem?_cons_zero, List.getElem?_cons_succ, List.set_cons_zero, List.set_cons_succ, Option.join_some, Option.join_none, Option.map_some, List.all_cons, List.all_nil, Value.oneCell', reduceIte, reduceCtorEq, Nat.reduceEqDiff, Nat.reduceAdd, Nat.reduceMul, Nat.reduceLT, Nat.reduceBEq, Nat.reduceLeDiff, Nat.reduceSub, List.size_toArray] -- r4
    exact LoopQ.next (i + 1) ⟨by omega, by omega⟩ (by omega) (Wk.sub ⟨rfl, rfl, rfl, rfl, rfl, rfl, trivial⟩)
  refine ITri.exit ?_; try simp -implicitDefEqProofs (disch := first | decide | exact of_eq_true (eq_true rfl) | omega | assumption) only [ ↓vcD, vcE, evs, evP, evB, intsOf, fillC, Value.cells, pt, List.append_nil, List.nil_append, List.cons_append, List.length_cons, List.length_nil, List.filter_nil, List.map_nil, ↓List.getElem?_cons_zero, ↓List.getElem?_cons_succ, List.getElem?_cons_zero, List.getElem?_cons_succ, List.set_cons_zero, List.set_cons_succ, Option.join_some, Option.join_none, Option.map_some, List.all_cons, List.all_nil, Value.oneCell', reduceIte, reduceCtorEq, Nat.reduceEqDiff, Nat.reduceAdd, Nat.reduceMul, Nat.reduceLT, Nat.reduceBEq, Nat.reduceLeDiff, Nat.reduceSub, List.size_toArray]
  have him : i = vs.length := by omega
  have htk : vs.take i = vs := by rw [him, List.take_length]
  rw [htk]
  have hsp : spkR cen (of, last, far) s vs = (decide (of ≤ ((vs.drop j).countP (farB cen (of, last, far) s) : Int)) && decide (far < s * (nth vs (m - 1) - cen))) := by
    unfold spkR
    rw [hj2, hm]
    rfl
  have gv : (rows eN vs)[m - 1]? = some (.int .i64 (nth vs (m - 1))) := getN (by omega)
  have hvb := hv _ (nth_mem (show m - 1 < vs.length by omega))
  have hm1 : ((m : Int) - 1) = ((m - 1 : Nat) : Int) := by omega
  generalize hN : (vs.drop j).countP (farB cen (of, last, far) s) = N at *
  rw [hsp]
  refine ITri.seq ?_
  by_cases c1 : of ≤ (N : Int)
  · rcases hs with rfl | rfl
    · refine ITri.draw pokT ?_; simp -implicitDefEqProofs (disch := first | decide | exact of_eq_true (eq_true rfl) | omega | assumption) only [c1, hm1, gv, Int.one_mul, decide_true,  ↓vcD, vcE, evs, evP, evB, intsOf, fillC, Value.cells, pt, List.append_nil, List.nil_append, List.cons_append, List.length_cons, List.length_nil, List.filter_nil, List.map_nil, ↓List.getElem?_cons_zero, ↓List.getElem?_cons_succ, List.getElem?_cons_zero, List.getElem?_cons_succ, List.set_cons_zero, List.set_cons_succ, Option.join_some, Option.join_none, Option.map_some, List.all_cons, List.all_nil, Value.oneCell', reduceIte, reduceCtorEq, Nat.reduceEqDiff, Nat.reduceAdd, Nat.reduceMul, Nat.reduceLT, Nat.reduceBEq, Nat.reduceLeDiff, Nat.reduceSub, List.size_toArray]
      refine ITri.ret ?_; exact EndR.plain (by simp) (by rfl) (by rfl) (by rfl)
    · refine ITri.draw pokT ?_; simp -implicitDefEqProofs (disch := first | decide | exact of_eq_true (eq_true rfl) | omega | assumption) only [c1, hm1, gv, Int.neg_one_mul, decide_true,  ↓vcD, vcE, evs, evP, evB, intsOf, fillC, Value.cells, pt, List.append_nil, List.nil_append, List.cons_append, List.length_cons, List.length_nil, List.filter_nil, List.map_nil, ↓List.getElem?_cons_zero, ↓List.getElem?_cons_succ, List.getElem?_cons_zero, List.getElem?_cons_succ, List.set_cons_zero, List.set_cons_succ, Option.join_some, Option.join_none, Option.map_some, List.all_cons, List.all_nil, Value.oneCell', reduceIte, reduceCtorEq, Nat.reduceEqDiff, Nat.reduceAdd, Nat.reduceMul, Nat.reduceLT, Nat.reduceBEq, Nat.reduceLeDiff, Nat.reduceSub, List.size_toArray]
      refine ITri.ret ?_; exact EndR.plain (by simp) (by rfl) (by rfl) (by rfl)
  · refine ITri.draw pokT ?_; simp -implicitDefEqProofs (disch := first | decide | exact of_eq_true (eq_true rfl) | omega | assumption) only [c1, decide_false,  ↓vcD, vcE, evs, evP, evB, intsOf, fillC, Value.cells, pt, List.append_nil, List.nil_append, List.cons_append, List.length_cons, List.length_nil, List.filter_nil, List.map_nil, ↓List.getElem?_cons_zero, ↓List.getElem?_cons_succ, List.getElem?_cons_zero, List.getElem?_cons_succ, List.set_cons_zero, List.set_cons_succ, Option.join_some, Option.join_none, Option.map_some, List.all_cons, List.all_nil, Value.oneCell', reduceIte, reduceCtorEq, Nat.reduceEqDiff, Nat.reduceAdd, Nat.reduceMul, Nat.reduceLT, Nat.reduceBEq, Nat.reduceLeDiff, Nat.reduceSub, List.size_toArray]
    refine ITri.ret ?_; exact EndR.plain (by simp) (by rfl) (by rfl) (by rfl)
theorem speaks_f {n m : Nat} {cen : Int} {rs : List Ru} {r : Ru} {vs : List Int} {s : Int} (hm : vs.length = m) (h1 : 1 ≤ m) (h2 : m ≤ 200) (hc : -1000000 ≤ cen ∧ cen ≤ 1000000) (hv : ∀ v ∈ vs, -1000000 ≤ v ∧ v ≤ 1000000) (hr : ruOK r = true) (hs : s = 1 ∨ s = -1) {h : AH} {s1 s2 : Value} (h0 : h.sees 0 = true) (r1 : Rd h s1 n (rows eU rs)) (r2 : Rd h s2 m (rows eN vs)) :
    Fc Try.prog 97 [chV cen s1, uV r, s2, .int .i64 s] h (.bool (spkR cen r s vs)) h :=
  Fc.lift2 (mk := fun ss => .agg ⟨[.int .i64 cen] ++ ss.take 1⟩ :: ([uV r] ++ ss.drop 1 ++ [.int .i64 s])) (mkv := fun _ => .bool (spkR cen r s vs)) (os := []) (fun c d => speaks_c n c m d cen rs r vs s hm h1 h2 hc hv hr hs) (MkL.ag2 rfl rfl rfl) (MkV.const rfl) (rows_no (f := eU) rs) (rows_no (f := eN) vs) (fun o ho => by cases ho) h0 r1 r2
def inL (c : Int) (rs : List Ru) (vs : List Int) (k : Nat) : Nat → List Al
  | 0 => atF c rs vs k
  | 1 => atF c rs vs k ++ if spkR c (nth rs k) 1 vs = true then [(((vs.length : Int) - 1), (k : Int), 1)] else []
  | _ => atF c rs vs (k + 1)
theorem inL_1 (c : Int) (rs : List Ru) (vs : List Int) (k : Nat) : inL c rs vs k 1 = inL c rs vs k 0 ++ if spkR c (nth rs k) 1 vs = true then [(((vs.length : Int) - 1), (k : Int), 1)] else [] := rfl
theorem inL_2 (c : Int) (rs : List Ru) (vs : List Int) (k : Nat) : inL c rs vs k 2 = inL c rs vs k 1 ++ if spkR c (nth rs k) (-1) vs = true then [(((vs.length : Int) - 1), (k : Int), -1)] else [] := by
  show atF c rs vs (k + 1) = _
  rw [atF, at1, inL, ← List.append_assoc]
theorem at1_len (c : Int) (r : Ru) (k : Int) (vs : List Int) : (at1 c r k vs).length ≤ 2 := by
  unfold at1
  split <;> split <;> simp
theorem atF_len (c : Int) (rs : List Ru) (vs : List Int) : ∀ k, (atF c rs vs k).length ≤ 2 * k
  | 0 => by simp [atF]
  | k + 1 => by
    rw [atF, List.length_append]
    have := atF_len c rs vs k
    have := at1_len c (nth rs k) k vs
    omega
theorem inL_len (c : Int) (rs : List Ru) (vs : List Int) (k p : Nat) : (inL c rs vs k p).length ≤ 2 * k + 2 := by
  match p with
  | 0 => have := atF_len c rs vs k; simp only [inL]; omega
  | 1 =>
    have := atF_len c rs vs k
    rw [inL_1, List.length_append]
    simp only [inL]
    split <;> simp <;> omega
  | p + 2 => have := atF_len c rs vs (k + 1); simp only [inL]; omega
theorem at_c (n c m d : Nat) (cen : Int) (rs : List Ru) (vs : List Int) (hn : rs.length = n) (hn8 : n ≤ 8) (hm : vs.length = m) (h1 : 1 ≤ m) (h2 : m ≤ 200) (hc : -1000000 ≤ cen ∧ cen ≤ 1000000) (hv : ∀ v ∈ vs, -1000000 ≤ v ∧ v ≤ 1000000) (hr : ∀ r ∈ rs, ruOK r = true) :
    Fc Try.prog 49 [.agg #[.int .i64 cen, .slice (some ⟨1, 0, none⟩) n c], .slice (some ⟨2, 0, none⟩) m d] (Hp 3 [none, some (.cells ⟨rows eU rs, 0, false⟩), some (.cells ⟨rows eN vs, 0, false⟩)]) (.slice (some ⟨3, 0, none⟩) (atF cen rs vs n).length openB) ((Hp 3 [none, some (.cells ⟨rows eU rs, 0, false⟩), some (.cells ⟨rows eN vs, 0, false⟩)]).news [.cells ⟨rows eU (atF cen rs vs n), 3, true⟩]) := by
  refine Fc.introR fn49 (by simp) rfl rfl ?_; simp only [argF]
  refine ITri.seq ?_
  refine ITri.reg pokT ?_; simp -implicitDefEqProofs (disch := first | decide | exact of_eq_true (eq_true rfl) | omega | assumption) only [ ↓vcD, vcE, evs, evP, evB, intsOf, fillC, Value.cells, pt, List.append_nil, List.nil_append, List.cons_append, List.length_cons, List.length_nil, List.filter_nil, List.map_nil, ↓List.getElem?_cons_zero, ↓List.getElem?_cons_succ, List.getElem?_cons_zero, List.getElem?_cons_succ, List.set_cons_zero, List.set_cons_succ, Option.join_some, Option.join_none, Option.map_some, List.all_cons, List.all_nil, Value.oneCell', reduceIte, reduceCtorEq, Nat.reduceEqDiff, Nat.reduceAdd, Nat.reduceMul, Nat.reduceLT, Nat.reduceBEq, Nat.reduceLeDiff, Nat.reduceSub, List.size_toArray] -- r0
  refine ITri.seq ?_
  refine ITri.reg pokT ?_; simp -implicitDefEqProofs (disch := first | decide | exact of_eq_true (eq_true rfl) | omega | assumption) only [ ↓vcD, vcE, evs, evP, evB, intsOf, fillC, Value.cells, pt, List.append_nil, List.nil_append, List.cons_append, List.length_cons, List.length_nil, List.filter_nil, List.map_nil, ↓List.getElem?_cons_zero, ↓List.getElem?_cons_succ, List.getElem?_cons_zero, List.getElem?_cons_succ, List.set_cons_zero, List.set_cons_succ, Option.join_some, Option.join_none, Option.map_some, List.all_cons, List.all_nil, Value.oneCell', reduceIte, reduceCtorEq, Nat.reduceEqDiff, Nat.reduceAdd, Nat.reduceMul, Nat.reduceLT, Nat.reduceBEq, Nat.reduceLeDiff, Nat.reduceSub, List.size_toArray] -- r1
  refine ITri.seq ?_
  refine ITri.seq ?_
  refine ITri.reg pokT ?_; simp -implicitDefEqProofs (disch := first | decide | exact of_eq_true (eq_true rfl) | omega | assumption) only [ ↓vcD, vcE, evs, evP, evB, intsOf, fillC, Value.cells, pt, List.append_nil, List.nil_append, List.cons_append, List.length_cons, List.length_nil, List.filter_nil, List.map_nil, ↓List.getElem?_cons_zero, ↓List.getElem?_cons_succ, List.getElem?_cons_zero, List.getElem?_cons_succ, List.set_cons_zero, List.set_cons_succ, Option.join_some, Option.join_none, Option.map_some, List.all_cons, List.all_nil, Value.oneCell', reduceIte, reduceCtorEq, Nat.reduceEqDiff, Nat.reduceAdd, Nat.reduceMul, Nat.reduceLT, Nat.reduceBEq, Nat.reduceLeDiff, Nat.reduceSub, List.size_toArray] -- r2
  refine ITri.block ?_
  refine ITri.loop (fun k : Nat => [(1, .slice (some ⟨2, 0, none⟩) m d), (2, pt 3), (5, .slice (some ⟨4, 0, none⟩) (inL cen rs vs k 0).length openB), (6, .int .i64 k)]) (fun _ => []) (fun k => Hp 3 [none, some (.cells ⟨rows eU rs, 0, false⟩), some (.cells ⟨rows eN vs, 0, false⟩), some (.cells ⟨[.int .i64 cen, .slice (some ⟨1, 0, none⟩) n c], 1, false⟩), some (.cells ⟨rows eU (inL cen rs vs k 0), 3, true⟩)]) (fun k => k ≤ n) (fun k => n - k) 0 (Nat.zero_le _) (Wk.gc [0, 1, 2, 3, 4] [(4, .room 0)] (of_decide_eq_true rfl) (of_decide_eq_true rfl) rfl rfl (of_decide_eq_true rfl) rfl rfl (by repeat (first | exact xiOK_nil | refine xiOK_cons (by first | trivial | exact roomOK _ (by decide)) ?_)) rfl (by simp -implicitDefEqProofs (disch := first | decide | exact of_eq_true (eq_true rfl) | omega | assumption) only [inL, atF, rows_nil, objOK, sgL, xiL, objAt, nilO, OM, mvL, mv, mvS, okS, okP, mvL_rows, okML, okM, okML_rows, List.getElem?_cons_zero, Option.getD_some, implies_true, imp_self, ne_eq, and_self, true_or, or_true, Nat.zero_mul, Nat.sub_self, openB_self, ↓vcD, vcE, evs, evP, evB, intsOf, fillC, Value.cells, pt, List.append_nil, List.nil_append, List.cons_append, List.length_cons, List.length_nil, List.filter_nil, List.map_nil, ↓List.getElem?_cons_zero, ↓List.getElem?_cons_succ, List.getElem?_cons_zero, List.getElem?_cons_succ, List.set_cons_zero, List.set_cons_succ, Option.join_some, Option.join_none, Option.map_some, List.all_cons, List.all_nil, Value.oneCell', reduceIte, reduceCtorEq, Nat.reduceEqDiff, Nat.reduceAdd, Nat.reduceMul, Nat.reduceLT, Nat.reduceBEq, Nat.reduceLeDiff, Nat.reduceSub, List.size_toArray]) (by simp -implicitDefEqProofs (disch := first | decide | exact of_eq_true (eq_true rfl) | omega | assumption) only [inL, atF, rows_nil, valOK, sgL, xiL, mv, mvA, mvL, mvS, okS, okP, okM, okMA, okML, Option.getD_some, implies_true, and_self, true_or, or_true, Int.natCast_add, Int.cast_ofNat_Int, Nat.zero_mul, Nat.sub_self, openB_self, ↓vcD, vcE, evs, evP, evB, intsOf, fillC, Value.cells, pt, List.append_nil, List.nil_append, List.cons_append, List.length_cons, List.length_nil, List.filter_nil, List.map_nil, ↓List.getElem?_cons_zero, ↓List.getElem?_cons_succ, List.getElem?_cons_zero, List.getElem?_cons_succ, List.set_cons_zero, List.set_cons_succ, Option.join_some, Option.join_none, Option.map_some, List.all_cons, List.all_nil, Value.oneCell', reduceIte, reduceCtorEq, Nat.reduceEqDiff, Nat.reduceAdd, Nat.reduceMul, Nat.reduceLT, Nat.reduceBEq, Nat.reduceLeDiff, Nat.reduceSub, List.size_toArray]) (fun _ h => by cases h) ⟨rfl, fun _ h => by cases h⟩) fun k hk => ?_
  refine ITri.seq ?_
  refine ITri.seq ?_
  refine ITri.reg pokT ?_; simp -implicitDefEqProofs (disch := first | decide | exact of_eq_true (eq_true rfl) | omega | assumption) only [ ↓vcD, vcE, evs, evP, evB, intsOf, fillC, Value.cells, pt, List.append_nil, List.nil_append, List.cons_append, List.length_cons, List.length_nil, List.filter_nil, List.map_nil, ↓List.getElem?_cons_zero, ↓List.getElem?_cons_succ, List.getElem?_cons_zero, List.getElem?_cons_succ, List.set_cons_zero, List.set_cons_succ, Option.join_some, Option.join_none, Option.map_some, List.all_cons, List.all_nil, Value.oneCell', reduceIte, reduceCtorEq, Nat.reduceEqDiff, Nat.reduceAdd, Nat.reduceMul, Nat.reduceLT, Nat.reduceBEq, Nat.reduceLeDiff, Nat.reduceSub, List.size_toArray] -- r3
  refine ITri.condD (by rfl) (fun h3 => ?_) (fun h3 => ?_)
  · have hkr : k < rs.length := by omega
    have hrk := hr _ (nth_mem hkr)
    refine ITri.skip ?_; simp only [SeqQ_normal, BlkQ_normal]
    refine ITri.seq ?_
    refine ITri.block ?_
    refine ITri.seq ?_
    refine ITri.reg pokT ?_; simp -implicitDefEqProofs (disch := first | decide | exact of_eq_true (eq_true rfl) | omega | assumption) only [ ↓vcD, vcE, evs, evP, evB, intsOf, fillC, Value.cells, pt, List.append_nil, List.nil_append, List.cons_append, List.length_cons, List.length_nil, List.filter_nil, List.map_nil, ↓List.getElem?_cons_zero, ↓List.getElem?_cons_succ, List.getElem?_cons_zero, List.getElem?_cons_succ, List.set_cons_zero, List.set_cons_succ, Option.join_some, Option.join_none, Option.map_some, List.all_cons, List.all_nil, Value.oneCell', reduceIte, reduceCtorEq, Nat.reduceEqDiff, Nat.reduceAdd, Nat.reduceMul, Nat.reduceLT, Nat.reduceBEq, Nat.reduceLeDiff, Nat.reduceSub, List.size_toArray] -- r5
    refine ITri.block ?_
    refine ITri.loop (fun p : Nat => [(1, .slice (some ⟨2, 0, none⟩) m d), (2, pt 3), (5, .slice (some ⟨4, 0, none⟩) (inL cen rs vs k p).length openB), (6, .int .i64 k), (7, .int .i64 (1 - 2 * p))]) (fun _ => []) (fun p => Hp 3 [none, some (.cells ⟨rows eU rs, 0, false⟩), some (.cells ⟨rows eN vs, 0, false⟩), some (.cells ⟨[.int .i64 cen, .slice (some ⟨1, 0, none⟩) n c], 1, false⟩), some (.cells ⟨rows eU (inL cen rs vs k p), 3, true⟩)]) (fun p => p ≤ 2) (fun p => 2 - p) 0 (Nat.zero_le _) (Wk.sub ⟨rfl, rfl, rfl, rfl, rfl, trivial⟩) fun p hp => ?_
    have hil := inL_len cen rs vs k p
    have hnx : 1 - 2 * (p : Int) - 2 = 1 - 2 * ((p + 1 : Nat) : Int) := by omega
    refine ITri.seq ?_
    refine ITri.seq ?_
    refine ITri.reg pokT ?_; simp -implicitDefEqProofs (disch := first | decide | exact of_eq_true (eq_true rfl) | omega | assumption) only [ ↓vcD, vcE, evs, evP, evB, intsOf, fillC, Value.cells, pt, List.append_nil, List.nil_append, List.cons_append, List.length_cons, List.length_nil, List.filter_nil, List.map_nil, ↓List.getElem?_cons_zero, ↓List.getElem?_cons_succ, List.getElem?_cons_zero, List.getElem?_cons_succ, List.set_cons_zero, List.set_cons_succ, Option.join_some, Option.join_none, Option.map_some, List.all_cons, List.all_nil, Value.oneCell', reduceIte, reduceCtorEq, Nat.reduceEqDiff, Nat.reduceAdd, Nat.reduceMul, Nat.reduceLT, Nat.reduceBEq, Nat.reduceLeDiff, Nat.reduceSub, List.size_toArray] -- r6
    refine ITri.condD (by rfl) (fun h4 => ?_) (fun h4 => ?_)
    · have hside : (1 - 2 * (p : Int)) = 1 ∨ (1 - 2 * (p : Int)) = -1 := by omega
      have hstep : inL cen rs vs k (p + 1) = inL cen rs vs k p ++ if spkR cen (nth rs k) (1 - 2 * p) vs = true then [(((vs.length : Int) - 1), (k : Int), (1 - 2 * (p : Int)))] else [] := by
        have : p = 0 ∨ p = 1 := by omega
        rcases this with rfl | rfl
        · exact inL_1 cen rs vs k
        · exact inL_2 cen rs vs k
      have hg : takeC (rows eU rs) (k * 3) 3 = some (eU (nth rs k)) := takeU hkr
      have hlr : (rows eU (inL cen rs vs k p)).length = (inL cen rs vs k p).length * 3 := by rw [rows_len]
      refine ITri.skip ?_; simp only [SeqQ_normal, BlkQ_normal]
      refine ITri.seq ?_
      refine ITri.block ?_
      refine ITri.seq ?_
      refine ITri.draw pokT ?_; simp -implicitDefEqProofs (disch := first | decide | exact of_eq_true (eq_true rfl) | omega | assumption) only [hg,  ↓vcD, vcE, evs, evP, evB, intsOf, fillC, Value.cells, pt, List.append_nil, List.nil_append, List.cons_append, List.length_cons, List.length_nil, List.filter_nil, List.map_nil, ↓List.getElem?_cons_zero, ↓List.getElem?_cons_succ, List.getElem?_cons_zero, List.getElem?_cons_succ, List.set_cons_zero, List.set_cons_succ, Option.join_some, Option.join_none, Option.map_some, List.all_cons, List.all_nil, Value.oneCell', reduceIte, reduceCtorEq, Nat.reduceEqDiff, Nat.reduceAdd, Nat.reduceMul, Nat.reduceLT, Nat.reduceBEq, Nat.reduceLeDiff, Nat.reduceSub, List.size_toArray] -- r8
      refine ⟨_, _, speaks_f (r := nth rs k) hm h1 h2 hc hv hrk hside (sees0 rfl (of_decide_eq_true rfl)) (Rd.hq rfl rfl) (Rd.hq rfl rfl), ?_⟩
      try simp -implicitDefEqProofs (disch := first | decide | exact of_eq_true (eq_true rfl) | omega | assumption) only [ ↓vcD, vcE, evs, evP, evB, intsOf, fillC, Value.cells, pt, List.append_nil, List.nil_append, List.cons_append, List.length_cons, List.length_nil, List.filter_nil, List.map_nil, ↓List.getElem?_cons_zero, ↓List.getElem?_cons_succ, List.getElem?_cons_zero, List.getElem?_cons_succ, List.set_cons_zero, List.set_cons_succ, Option.join_some, Option.join_none, Option.map_some, List.all_cons, List.all_nil, Value.oneCell', reduceIte, reduceCtorEq, Nat.reduceEqDiff, Nat.reduceAdd, Nat.reduceMul, Nat.reduceLT, Nat.reduceBEq, Nat.reduceLeDiff, Nat.reduceSub, List.size_toArray]
      cases hsp : spkR cen (nth rs k) (1 - 2 * (p : Int)) vs with
      | true =>
        rw [if_pos hsp] at hstep
        have hsn : rows eU (inL cen rs vs k p) ++ [.int .i64 ((m : Int) - 1), .int .i64 k, .int .i64 (1 - 2 * (p : Int))] = rows eU (inL cen rs vs k (p + 1)) := by
          rw [hstep, rows_append, rows_one, hm]
          rfl
        have hsl : (inL cen rs vs k p).length + 1 = (inL cen rs vs k (p + 1)).length := by rw [hstep]; simp
        refine ITri.cond (v := true) rfl (fun _ => ?_) (fun h => by cases h)
        refine ITri.reg pokT ?_; simp -implicitDefEqProofs (disch := first | decide | exact of_eq_true (eq_true rfl) | omega | assumption) only [hlr,  ↓vcD, vcE, evs, evP, evB, intsOf, fillC, Value.cells, pt, List.append_nil, List.nil_append, List.cons_append, List.length_cons, List.length_nil, List.filter_nil, List.map_nil, ↓List.getElem?_cons_zero, ↓List.getElem?_cons_succ, List.getElem?_cons_zero, List.getElem?_cons_succ, List.set_cons_zero, List.set_cons_succ, Option.join_some, Option.join_none, Option.map_some, List.all_cons, List.all_nil, Value.oneCell', reduceIte, reduceCtorEq, Nat.reduceEqDiff, Nat.reduceAdd, Nat.reduceMul, Nat.reduceLT, Nat.reduceBEq, Nat.reduceLeDiff, Nat.reduceSub, List.size_toArray] -- r9
        rw [hsn, hsl]
        refine ITri.reg pokT ?_; simp -implicitDefEqProofs (disch := first | decide | exact of_eq_true (eq_true rfl) | omega | assumption) only [ ↓vcD, vcE, evs, evP, evB, intsOf, fillC, Value.cells, pt, List.append_nil, List.nil_append, List.cons_append, List.length_cons, List.length_nil, List.filter_nil, List.map_nil, ↓List.getElem?_cons_zero, ↓List.getElem?_cons_succ, List.getElem?_cons_zero, List.getElem?_cons_succ, List.set_cons_zero, List.set_cons_succ, Option.join_some, Option.join_none, Option.map_some, List.all_cons, List.all_nil, Value.oneCell', reduceIte, reduceCtorEq, Nat.reduceEqDiff, Nat.reduceAdd, Nat.reduceMul, Nat.reduceLT, Nat.reduceBEq, Nat.reduceLeDiff, Nat.reduceSub, List.size_toArray] -- r7
        rw [hnx]
        exact LoopQ.next (p + 1) (by omega) (by omega) (Wk.gc [0, 1, 2, 3, 6] [] (of_decide_eq_true rfl) (of_decide_eq_true rfl) rfl rfl (of_decide_eq_true rfl) rfl rfl (fun _ h => by cases h) rfl (by simp -implicitDefEqProofs (disch := first | decide | exact of_eq_true (eq_true rfl) | omega | assumption) only [objOK, sgL, xiL, objAt, nilO, OM, mvL, mv, mvS, okS, okP, mvL_rows, okML, okM, okML_rows, List.getElem?_cons_zero, Option.getD_some, implies_true, imp_self, ne_eq, and_self, ↓vcD, vcE, evs, evP, evB, intsOf, fillC, Value.cells, pt, List.append_nil, List.nil_append, List.cons_append, List.length_cons, List.length_nil, List.filter_nil, List.map_nil, ↓List.getElem?_cons_zero, ↓List.getElem?_cons_succ, List.getElem?_cons_zero, List.getElem?_cons_succ, List.set_cons_zero, List.set_cons_succ, Option.join_some, Option.join_none, Option.map_some, List.all_cons, List.all_nil, Value.oneCell', reduceIte, reduceCtorEq, Nat.reduceEqDiff, Nat.reduceAdd, Nat.reduceMul, Nat.reduceLT, Nat.reduceBEq, Nat.reduceLeDiff, Nat.reduceSub, List.size_toArray]) (by simp -implicitDefEqProofs (disch := first | decide | exact of_eq_true (eq_true rfl) | omega | assumption) only [ valOK, sgL, xiL, mv, mvA, mvL, mvS, okS, okP, okM, okMA, okML, Option.getD_some, implies_true, and_self, Int.natCast_add, Int.cast_ofNat_Int, ↓vcD, vcE, evs, evP, evB, intsOf, fillC, Value.cells, pt, List.append_nil, List.nil_append, List.cons_append, List.length_cons, List.length_nil, List.filter_nil, List.map_nil, ↓List.getElem?_cons_zero, ↓List.getElem?_cons_succ, List.getElem?_cons_zero, List.getElem?_cons_succ, List.set_cons_zero, List.set_cons_succ, Option.join_some, Option.join_none, Option.map_some, List.all_cons, List.all_nil, Value.oneCell', reduceIte, reduceCtorEq, Nat.reduceEqDiff, Nat.reduceAdd, Nat.reduceMul, Nat.reduceLT, Nat.reduceBEq, Nat.reduceLeDiff, Nat.reduceSub, List.size_toArray]) (fun _ h => by cases h) ⟨rfl, fun _ h => by cases h⟩)
      | false =>
        rw [if_neg (by rw [hsp]; simp), List.append_nil] at hstep
        refine ITri.cond (v := false) rfl (fun h => by cases h) (fun _ => ?_)
        refine ITri.skip ?_; simp only [SeqQ_normal, BlkQ_normal]
        refine ITri.reg pokT ?_; simp -implicitDefEqProofs (disch := first | decide | exact of_eq_true (eq_true rfl) | omega | assumption) only [ ↓vcD, vcE, evs, evP, evB, intsOf, fillC, Value.cells, pt, List.append_nil, List.nil_append, List.cons_append, List.length_cons, List.length_nil, List.filter_nil, List.map_nil, ↓List.getElem?_cons_zero, ↓List.getElem?_cons_succ, List.getElem?_cons_zero, List.getElem?_cons_succ, List.set_cons_zero, List.set_cons_succ, Option.join_some, Option.join_none, Option.map_some, List.all_cons, List.all_nil, Value.oneCell', reduceIte, reduceCtorEq, Nat.reduceEqDiff, Nat.reduceAdd, Nat.reduceMul, Nat.reduceLT, Nat.reduceBEq, Nat.reduceLeDiff, Nat.reduceSub, List.size_toArray] -- r7
        rw [hnx, ← hstep]
        exact LoopQ.next (p + 1) (by omega) (by omega) (Wk.sub ⟨rfl, rfl, rfl, rfl, rfl, trivial⟩)
    refine ITri.exit ?_; try simp -implicitDefEqProofs (disch := first | decide | exact of_eq_true (eq_true rfl) | omega | assumption) only [ ↓vcD, vcE, evs, evP, evB, intsOf, fillC, Value.cells, pt, List.append_nil, List.nil_append, List.cons_append, List.length_cons, List.length_nil, List.filter_nil, List.map_nil, ↓List.getElem?_cons_zero, ↓List.getElem?_cons_succ, List.getElem?_cons_zero, List.getElem?_cons_succ, List.set_cons_zero, List.set_cons_succ, Option.join_some, Option.join_none, Option.map_some, List.all_cons, List.all_nil, Value.oneCell', reduceIte, reduceCtorEq, Nat.reduceEqDiff, Nat.reduceAdd, Nat.reduceMul, Nat.reduceLT, Nat.reduceBEq, Nat.reduceLeDiff, Nat.reduceSub, List.size_toArray]
    obtain rfl : p = 2 := by omega
    have hfin : inL cen rs vs k 2 = inL cen rs vs (k + 1) 0 := rfl
    rw [hfin]
    refine ITri.reg pokT ?_; simp -implicitDefEqProofs (disch := first | decide | exact of_eq_true (eq_true rfl) | omega | assumption) only [ ↓vcD, vcE, evs, evP, evB, intsOf, fillC, Value.cells, pt, List.append_nil, List.nil_append, List.cons_append, List.length_cons, List.length_nil, List.filter_nil, List.map_nil, ↓List.getElem?_cons_zero, ↓List.getElem?_cons_succ, List.getElem?_cons_zero, List.getElem?_cons_succ, List.set_cons_zero, List.set_cons_succ, Option.join_some, Option.join_none, Option.map_some, List.all_cons, List.all_nil, Value.oneCell', reduceIte, reduceCtorEq, Nat.reduceEqDiff, Nat.reduceAdd, Nat.reduceMul, Nat.reduceLT, Nat.reduceBEq, Nat.reduceLeDiff, Nat.reduceSub, List.size_toArray] -- r4
    exact LoopQ.next (k + 1) (by omega) (by omega) (Wk.sub ⟨rfl, rfl, rfl, rfl, trivial⟩)
  refine ITri.exit ?_; try simp -implicitDefEqProofs (disch := first | decide | exact of_eq_true (eq_true rfl) | omega | assumption) only [ ↓vcD, vcE, evs, evP, evB, intsOf, fillC, Value.cells, pt, List.append_nil, List.nil_append, List.cons_append, List.length_cons, List.length_nil, List.filter_nil, List.map_nil, ↓List.getElem?_cons_zero, ↓List.getElem?_cons_succ, List.getElem?_cons_zero, List.getElem?_cons_succ, List.set_cons_zero, List.set_cons_succ, Option.join_some, Option.join_none, Option.map_some, List.all_cons, List.all_nil, Value.oneCell', reduceIte, reduceCtorEq, Nat.reduceEqDiff, Nat.reduceAdd, Nat.reduceMul, Nat.reduceLT, Nat.reduceBEq, Nat.reduceLeDiff, Nat.reduceSub, List.size_toArray]
  obtain rfl : n = k := by omega
  refine ITri.seq ?_
  refine ITri.reg pokT ?_; simp -implicitDefEqProofs (disch := first | decide | exact of_eq_true (eq_true rfl) | omega | assumption) only [ ↓vcD, vcE, evs, evP, evB, intsOf, fillC, Value.cells, pt, List.append_nil, List.nil_append, List.cons_append, List.length_cons, List.length_nil, List.filter_nil, List.map_nil, ↓List.getElem?_cons_zero, ↓List.getElem?_cons_succ, List.getElem?_cons_zero, List.getElem?_cons_succ, List.set_cons_zero, List.set_cons_succ, Option.join_some, Option.join_none, Option.map_some, List.all_cons, List.all_nil, Value.oneCell', reduceIte, reduceCtorEq, Nat.reduceEqDiff, Nat.reduceAdd, Nat.reduceMul, Nat.reduceLT, Nat.reduceBEq, Nat.reduceLeDiff, Nat.reduceSub, List.size_toArray] -- r10
  refine ITri.ret ?_
  exact end_own (k := 4) (by decide) (rows_no (f := eU) _) rfl rfl
theorem at_f {n m : Nat} {cen : Int} {rs : List Ru} {vs : List Int} (hn : rs.length = n) (hn8 : n ≤ 8) (hm : vs.length = m) (h1 : 1 ≤ m) (h2 : m ≤ 200) (hc : -1000000 ≤ cen ∧ cen ≤ 1000000) (hv : ∀ v ∈ vs, -1000000 ≤ v ∧ v ≤ 1000000) (hr : ∀ r ∈ rs, ruOK r = true) {h : AH} {s1 s2 : Value} (h0 : h.sees 0 = true) (r1 : Rd h s1 n (rows eU rs)) (r2 : Rd h s2 m (rows eN vs)) :
    Fc Try.prog 49 [chV cen s1, s2] h (.slice (some ⟨h.next, 0, none⟩) (atF cen rs vs n).length openB) (h.new (.cells ⟨rows eU (atF cen rs vs n), 3, true⟩)) :=
  Fc.lift2 (mk := fun ss => .agg ⟨[.int .i64 cen] ++ ss.take 1⟩ :: ([] ++ ss.drop 1 ++ [])) (mkv := fun ss => ss.headD undef) (os := [((atF cen rs vs n).length, rows eU (atF cen rs vs n), 3)]) (fun c d => by
    have := at_c n c m d cen rs vs hn hn8 hm h1 h2 hc hv hr
    rw [Hq_news] at this
    exact this) (MkL.ag2 rfl rfl rfl) MkV.one (rows_no (f := eU) rs) (rows_no (f := eN) vs) (fun o ho => by simp at ho; subst ho; exact rows_no (f := eU) _) h0 r1 r2
end Go.Proofs.Ytfmcdbcoljpomaa
