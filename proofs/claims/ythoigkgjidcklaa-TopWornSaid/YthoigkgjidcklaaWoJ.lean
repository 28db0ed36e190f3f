/-
  Chapter 11 at the top, by names: a shop with one tool and one lot (opened).
-/
import Derived.Test.YthoigkgjidcklaaWoI
set_option linter.unusedSimpArgs false
set_option linter.unusedVariables false
namespace Go.Proofs.Ythoigkgjidcklaa
open Go.RowKit Go.Vm
set_option maxRecDepth 100000
/- boule/bouletop.opened · slots 104 · names 0:wear 1:life 2:tools 3:route 4:lots 5:wear 6:life 7:tools 8:route 9:lots 12:p 13:i 14:i 15:i 16:s 17:e 18:i 19:n 20:e · results [10, 11] -/
def ir20_r0 : IC := .reg [⟨some 10, none, false, .mv (.k (.pointer none))⟩,
  ⟨some 11, none, false, .mv (.k (.bool false))⟩] (some [0, 1, 2, 3, 4])
def ir20_r1 : IC := .reg [⟨some 21, none, false, .bld [(.slice none 0 0), (.slice none 0 0), (.slice none 0 0)] []⟩,
  ⟨some 12, none, false, .alloc [(.slice none 0 0), (.slice none 0 0), (.slice none 0 0)]⟩,
  ⟨none, none, false, .st 3 (.t 12) (.t 21)⟩] (some [0, 1, 2, 3, 4, 12])
def ir20_r2 : IC := .reg [⟨some 13, none, false, .mv (.k (.int .i64 0))⟩] (some [0, 1, 2, 3, 4, 12, 13])
def ir20_r3 : IC := .reg [⟨some 22, none, false, .mv (.t 13)⟩,
  ⟨some 23, none, false, .mv (.t 0)⟩,
  ⟨some 24, none, false, .len (.t 23)⟩,
  ⟨some 25, none, false, .cmp .lss (.t 22) (.t 24)⟩] (some [0, 1, 2, 3, 4, 12, 13, 25])
def ir20_1 : IC := .cond (.t 25) .skip (.exit 0)
def ir20_2 : IC := .seq ir20_r3 ir20_1
def ir20_r5 : IC := .draw [(⟨some 28, none, false, .fad 1 (.t 12)⟩, false, 0, 0),
  (⟨some 29, none, false, .ldc (.t 28)⟩, false, 1, 257),
  (⟨some 30, none, false, .mv (.t 0)⟩, false, 0, 0),
  (⟨some 31, none, false, .mv (.t 13)⟩, false, 0, 0),
  (⟨some 32, none, false, .iad 1 (.t 30) (.t 31)⟩, false, 12, 0),
  (⟨some 33, none, false, .ldc (.t 32)⟩, false, 28, 258),
  (⟨some 34, none, false, .bld [(.int .i64 0), (.int .i64 0)] [(0, 1, (.k (.int .i64 5))), (1, 1, (.t 33))]⟩, false, 60, 0),
  (⟨some 35, none, false, .bsl 2 1 [(.int .i64 0), (.int .i64 0)] [(0, (.t 34))]⟩, false, 124, 258),
  (⟨some 36, none, false, .app 2 16 (.t 29) (.t 35)⟩, true, 255, 0),
  (⟨some 37, none, false, .fad 1 (.t 12)⟩, false, 511, 0),
  (⟨none, none, false, .st 1 (.t 37) (.t 36)⟩, true, 1023, 0)] (some [0, 1, 2, 3, 4, 12, 13])
def ir20_3 : IC := .block 1 ir20_r5
def ir20_r4 : IC := .reg [⟨some 26, none, false, .mv (.t 13)⟩,
  ⟨some 27, none, false, .ar .add (.t 26) (.k (.int .i64 1))⟩,
  ⟨some 13, none, false, .mv (.t 27)⟩] (some [0, 1, 2, 3, 4, 12, 13])
def ir20_4 : IC := .seq ir20_3 ir20_r4
def ir20_5 : IC := .seq ir20_2 ir20_4
def ir20_6 : IC := .loop ir20_5
def ir20_7 : IC := .block 0 ir20_6
def ir20_8 : IC := .seq ir20_r2 ir20_7
def ir20_r6 : IC := .reg [⟨some 14, none, false, .mv (.k (.int .i64 0))⟩] (some [0, 1, 2, 3, 4, 12, 14])
def ir20_r7 : IC := .reg [⟨some 38, none, false, .mv (.t 14)⟩,
  ⟨some 39, none, false, .mv (.t 2)⟩,
  ⟨some 40, none, false, .cmp .lss (.t 38) (.t 39)⟩] (some [0, 1, 2, 3, 4, 12, 14, 40])
def ir20_9 : IC := .cond (.t 40) .skip (.exit 2)
def ir20_10 : IC := .seq ir20_r7 ir20_9
def ir20_r9 : IC := .reg [⟨some 43, none, false, .fad 0 (.t 12)⟩,
  ⟨some 44, none, false, .ldc (.t 43)⟩,
  ⟨some 45, none, false, .mv (.t 0)⟩,
  ⟨some 46, none, false, .len (.t 45)⟩,
  ⟨some 47, none, false, .conv .u64 (.t 46)⟩,
  ⟨some 48, none, false, .shf .shl (.k (.int .i64 1)) (.t 47)⟩,
  ⟨some 49, none, false, .ar .sub (.t 48) (.k (.int .i64 1))⟩,
  ⟨some 50, none, false, .mv (.t 1)⟩,
  ⟨some 51, none, false, .bld [(.int .i64 0), (.int .i64 0), (.int .i64 0)] [(0, 1, (.k (.int .i64 1))), (1, 1, (.k (.int .i64 1)))]⟩,
  ⟨some 52, none, false, .bsl 3 1 [(.int .i64 0), (.int .i64 0), (.int .i64 0)] [(0, (.t 51))]⟩,
  ⟨some 53, none, false, .bld [(.int .i64 0), (.slice none 0 0)] [(1, 1, (.t 52))]⟩,
  ⟨some 54, none, false, .bld [(.int .i64 0), (.int .i64 0), (.int .i64 0), (.int .i64 0), (.slice none 0 0)] [(0, 1, (.t 49)), (1, 1, (.k (.int .i64 10))), (2, 1, (.t 50)), (3, 2, (.t 53))]⟩,
  ⟨some 55, none, false, .bsl 5 1 [(.int .i64 0), (.int .i64 0), (.int .i64 0), (.int .i64 0), (.slice none 0 0)] [(0, (.t 54))]⟩,
  ⟨some 56, none, false, .app 5 56 (.t 44) (.t 55)⟩,
  ⟨some 57, none, false, .fad 0 (.t 12)⟩,
  ⟨none, none, false, .st 1 (.t 57) (.t 56)⟩] (some [0, 1, 2, 3, 4, 12, 14])
def ir20_11 : IC := .block 3 ir20_r9
def ir20_r8 : IC := .reg [⟨some 41, none, false, .mv (.t 14)⟩,
  ⟨some 42, none, false, .ar .add (.t 41) (.k (.int .i64 1))⟩,
  ⟨some 14, none, false, .mv (.t 42)⟩] (some [0, 1, 2, 3, 4, 12, 14])
def ir20_12 : IC := .seq ir20_11 ir20_r8
def ir20_13 : IC := .seq ir20_10 ir20_12
def ir20_14 : IC := .loop ir20_13
def ir20_15 : IC := .block 2 ir20_14
def ir20_16 : IC := .seq ir20_r6 ir20_15
def ir20_r10 : IC := .reg [⟨some 15, none, false, .mv (.k (.int .i64 0))⟩] (some [3, 4, 12, 15])
def ir20_r11 : IC := .reg [⟨some 58, none, false, .mv (.t 15)⟩,
  ⟨some 59, none, false, .mv (.t 3)⟩,
  ⟨some 60, none, false, .len (.t 59)⟩,
  ⟨some 61, none, false, .cmp .lss (.t 58) (.t 60)⟩] (some [3, 4, 12, 15, 61])
def ir20_17 : IC := .cond (.t 61) .skip (.exit 4)
def ir20_18 : IC := .seq ir20_r11 ir20_17
def ir20_r13 : IC := .draw [(⟨some 64, none, false, .fad 2 (.t 12)⟩, false, 0, 0),
  (⟨some 65, none, false, .ldc (.t 64)⟩, false, 1, 257),
  (⟨some 66, none, false, .mv (.t 3)⟩, false, 0, 0),
  (⟨some 67, none, false, .mv (.t 15)⟩, false, 0, 0),
  (⟨some 68, none, false, .iad 1 (.t 66) (.t 67)⟩, false, 12, 0),
  (⟨some 69, none, false, .ldc (.t 68)⟩, false, 28, 258),
  (⟨some 70, none, false, .bld [(.int .i64 0), (.int .i64 0)] [(0, 1, (.t 69)), (1, 1, (.k (.int .i64 1000000)))]⟩, false, 60, 0),
  (⟨some 71, none, false, .bsl 2 1 [(.int .i64 0), (.int .i64 0)] [(0, (.t 70))]⟩, false, 124, 258),
  (⟨some 72, none, false, .app 2 16 (.t 65) (.t 71)⟩, true, 255, 0),
  (⟨some 73, none, false, .fad 2 (.t 12)⟩, false, 511, 0),
  (⟨none, none, false, .st 1 (.t 73) (.t 72)⟩, true, 1023, 0)] (some [3, 4, 12, 15])
def ir20_19 : IC := .block 5 ir20_r13
def ir20_r12 : IC := .reg [⟨some 62, none, false, .mv (.t 15)⟩,
  ⟨some 63, none, false, .ar .add (.t 62) (.k (.int .i64 1))⟩,
  ⟨some 15, none, false, .mv (.t 63)⟩] (some [3, 4, 12, 15])
def ir20_20 : IC := .seq ir20_19 ir20_r12
def ir20_21 : IC := .seq ir20_18 ir20_20
def ir20_22 : IC := .loop ir20_21
def ir20_23 : IC := .block 4 ir20_22
def ir20_24 : IC := .seq ir20_r10 ir20_23
def ir20_r14 : IC := .reg [⟨some 75, none, false, .lda 3 (.t 12)⟩,
  ⟨some 76, none, false, .call (.f 12) [(.t 75)]⟩,
  ⟨some 74, none, false, .mv (.t 76)⟩,
  ⟨some 77, none, false, .ext (.t 74) 0⟩,
  ⟨some 78, none, false, .ext (.t 74) 1⟩,
  ⟨some 16, none, false, .mv (.t 77)⟩,
  ⟨some 17, none, false, .mv (.t 78)⟩] (some [4, 16, 17])
def ir20_r15 : IC := .reg [⟨some 79, none, false, .mv (.t 17)⟩,
  ⟨some 80, none, false, .cmp .neq (.t 79) (.k (.int .i64 0))⟩,
  ⟨some 81, none, false, .mv (.t 80)⟩,
  ⟨some 82, some (81, false), false, .mv (.t 16)⟩,
  ⟨some 83, some (81, false), false, .gen (.binOp .eql 33 (.tmp 82) (.const (.pointer none)) 33)⟩,
  ⟨some 84, none, false, .pick (.t 81) (.k (.bool true)) (.t 83)⟩] (some [4, 16, 84])
def ir20_r16 : IC := .reg [⟨some 10, none, false, .mv (.k (.pointer none))⟩,
  ⟨some 11, none, false, .mv (.k (.bool false))⟩] (some [10, 11])
def ir20_25 : IC := .seq ir20_r16 .ret
def ir20_26 : IC := .cond (.t 84) ir20_25 .skip
def ir20_27 : IC := .seq ir20_r15 ir20_26
def ir20_r17 : IC := .reg [⟨some 18, none, false, .mv (.k (.int .i64 0))⟩] (some [4, 16, 18])
def ir20_r18 : IC := .reg [⟨some 85, none, false, .mv (.t 18)⟩,
  ⟨some 86, none, false, .mv (.t 4)⟩,
  ⟨some 87, none, false, .cmp .lss (.t 85) (.t 86)⟩] (some [4, 16, 18, 87])
def ir20_28 : IC := .cond (.t 87) .skip (.exit 6)
def ir20_29 : IC := .seq ir20_r18 ir20_28
def ir20_r20 : IC := .reg [⟨some 91, none, false, .mv (.t 16)⟩,
  ⟨some 92, none, false, .call (.f 40) [(.t 91)]⟩,
  ⟨some 90, none, false, .mv (.t 92)⟩,
  ⟨some 93, none, false, .ext (.t 90) 0⟩,
  ⟨some 94, none, false, .ext (.t 90) 1⟩,
  ⟨some 19, none, false, .mv (.t 93)⟩,
  ⟨some 20, none, false, .mv (.t 94)⟩] (some [4, 16, 18, 19, 20])
def ir20_r21 : IC := .reg [⟨some 95, none, false, .mv (.t 20)⟩,
  ⟨some 96, none, false, .cmp .neq (.t 95) (.k (.int .i64 0))⟩,
  ⟨some 97, none, false, .mv (.t 96)⟩,
  ⟨some 98, some (97, false), false, .mv (.t 19)⟩,
  ⟨some 99, some (97, false), false, .mv (.t 18)⟩,
  ⟨some 100, some (97, false), false, .ar .add (.t 99) (.k (.int .i64 1))⟩,
  ⟨some 101, some (97, false), false, .cmp .neq (.t 98) (.t 100)⟩,
  ⟨some 102, none, false, .pick (.t 97) (.k (.bool true)) (.t 101)⟩] (some [4, 16, 18, 102])
def ir20_r22 : IC := .reg [⟨some 10, none, false, .mv (.k (.pointer none))⟩,
  ⟨some 11, none, false, .mv (.k (.bool false))⟩] (some [10, 11])
def ir20_30 : IC := .seq ir20_r22 .ret
def ir20_31 : IC := .cond (.t 102) ir20_30 .skip
def ir20_32 : IC := .seq ir20_r21 ir20_31
def ir20_33 : IC := .seq ir20_r20 ir20_32
def ir20_34 : IC := .block 7 ir20_33
def ir20_r19 : IC := .reg [⟨some 88, none, false, .mv (.t 18)⟩,
  ⟨some 89, none, false, .ar .add (.t 88) (.k (.int .i64 1))⟩,
  ⟨some 18, none, false, .mv (.t 89)⟩] (some [4, 16, 18])
def ir20_35 : IC := .seq ir20_34 ir20_r19
def ir20_36 : IC := .seq ir20_29 ir20_35
def ir20_37 : IC := .loop ir20_36
def ir20_38 : IC := .block 6 ir20_37
def ir20_39 : IC := .seq ir20_r17 ir20_38
def ir20_r23 : IC := .reg [⟨some 103, none, false, .mv (.t 16)⟩,
  ⟨some 10, none, false, .mv (.t 103)⟩,
  ⟨some 11, none, false, .mv (.k (.bool true))⟩] (some [10, 11])
def ir20_40 : IC := .seq ir20_r23 .ret
def ir20_41 : IC := .seq ir20_39 ir20_40
def ir20_42 : IC := .seq ir20_27 ir20_41
def ir20_43 : IC := .seq ir20_r14 ir20_42
def ir20_44 : IC := .seq ir20_24 ir20_43
def ir20_45 : IC := .seq ir20_16 ir20_44
def ir20_46 : IC := .seq ir20_8 ir20_45
def ir20_47 : IC := .seq ir20_r1 ir20_46
def ir20_48 : IC := .seq ir20_r0 ir20_47
def ir20 : IC := ir20_48
theorem fn20 : FnIs Try.prog 20 ir20 104 [.tmp 10, .tmp 11] := ⟨Try.f20, Try.f20.body.getD .skip, Try.func20, by kernel_rfl, by kernel_rfl, by kernel_rfl, by kernel_rfl⟩
abbrev eY (x : Int) : List Value := [.int .u8 x]
instance flY : FlatE eY 1 := ⟨fun _ => rfl, fun _ => rfl, fun _ => rfl⟩
/-- The recipes and the route. -/
def rcL (ws : List Int) : List Rg := ws.map fun w => (5, w)
def rtL (rs : List Int) : List Rg := rs.map fun r => (r, 1000000)
theorem rcL_len (ws : List Int) : (rcL ws).length = ws.length := by simp [rcL]
theorem rtL_len (ws : List Int) : (rtL ws).length = ws.length := by simp [rtL]
theorem nth_map {f : Int → Rg} {xs : List Int} {k : Nat} (h : k < xs.length) : nth (xs.map f) k = f (nth xs k) := by
  have h1 := get_nth (xs := xs.map f) (i := k) (by simpa using h)
  have h2 := get_nth (xs := xs) (i := k) h
  rw [List.getElem?_map, h2] at h1
  exact (Option.some.inj h1).symm
theorem rc_snoc {ws : List Int} {k : Nat} (h : k < ws.length) : rows eR (rcL (ws.take (k + 1))) = rows eR (rcL (ws.take k)) ++ [.int .i64 5, .int .i64 (nth ws k)] := by
  unfold rcL
  rw [List.take_add_one, get_nth h, Option.toList_some, List.map_append, rows_append]
  rfl
theorem rt_snoc {ws : List Int} {k : Nat} (h : k < ws.length) : rows eR (rtL (ws.take (k + 1))) = rows eR (rtL (ws.take k)) ++ [.int .i64 (nth ws k), .int .i64 1000000] := by
  unfold rtL
  rw [List.take_add_one, get_nth h, Option.toList_some, List.map_append, rows_append]
  rfl
theorem rc_len {ws : List Int} {k : Nat} (h : k ≤ ws.length) : (rows eR (rcL (ws.take k))).length = k * 2 := by
  rw [rows_len (f := eR), rcL_len, List.length_take, Nat.min_eq_left h]
theorem rt_len {ws : List Int} {k : Nat} (h : k ≤ ws.length) : (rows eR (rtL (ws.take k))).length = k * 2 := by
  rw [rows_len (f := eR), rtL_len, List.length_take, Nat.min_eq_left h]
abbrev aO (wb : List Int) : Option AObj := some (cO (rows eY wb) 0 false)
abbrev iO (ws : List Int) : Option AObj := some (cO (rows eN ws) 1 true)
section
variable {wb rb ws rs : List Int} {n m : Nat} {life : Int}
/-- What the plan's tools and the lot are made of. -/
abbrev opT (n : Nat) (life : Int) : List (Option AObj) := [some (cO r110 3 false), some (cO [.int .i64 (rcpI n), .int .i64 10, .int .i64 life, .int .i64 0, slO 7 1 1] 5 false), some (cO [.int .i64 (rcpI n), .int .i64 10, .int .i64 life, .int .i64 0, slO 7 1 1] 5 true)]
abbrev opL : List (Option AObj) := [some (cO [.int .i64 0, .pointer none, .int .i64 0, .int .u8 0, .int .i64 0] 1 false), some (cO [pt 26] 1 false), some (cO [pt 26] 1 true)]
theorem opened_x (hws : ws.length = n) (hrs : rs.length = m) (hn : 1 ≤ n ∧ n ≤ 8) (hm : 1 ≤ m ∧ m ≤ 12) (hl : 0 ≤ life ∧ life ≤ 1000000) (hw : ∀ i, i < n → 0 ≤ nth ws i ∧ nth ws i ≤ 1000000) (hr : ∀ i, i < m → 0 ≤ nth rs i ∧ nth rs i < n) :
    Fc Try.prog 20 [slO 3 n openB, .int .i64 life, .int .i64 1, slO 4 m openB, .int .i64 1] (Hp 3 [none, aO wb, aO rb, iO ws, iO rs]) (.tuple #[pt 15, .bool true])
      (Hp 3 (nM (aO wb) (aO rb) (iO ws) (iO rs) n m (rcL ws) (rtL rs) life ++ nZ n m (rcL ws) (rtL rs) (slO 25 1 openB) (slO 28 1 openB) (nY n life ++ [some (cO [.int .i64 0, .pointer none, .int .i64 0, .int .u8 0, .int .i64 0] 1 false), some (cO [pt 26] 1 false), some (cO [pt 26] 1 true)]))) := by
  obtain ⟨b1, b2, b3⟩ := rcp_bd hn.2
  have e1 : rcpI n + 1 - 1 = rcpI n := by omega
  refine Fc.introX fn20 (by simp) (fun _ => grow_hq (by simp) (by rfl)) ?_; simp only [argF]
  refine ITri.seq ?_
  refine ITri.reg pok ?_; simp -implicitDefEqProofs (disch := first | decide | exact of_eq_true (eq_true rfl) | omega | assumption) only [ ↓vcD, vcE, ↓vcG, vcF, evs, evP, evB, intsOf, fillC, Value.cells, pt, Value.oneCell', reduceIte, reduceCtorEq, Nat.reduceEqDiff, Nat.reduceAdd, Nat.reduceMul, Nat.reduceLT, Nat.reduceBEq, Nat.reduceLeDiff, Nat.reduceSub] -- r0
  refine ITri.seq ?_
  refine ITri.reg pok ?_; simp -implicitDefEqProofs (disch := first | decide | exact of_eq_true (eq_true rfl) | omega | assumption) only [ ↓vcD, vcE, ↓vcG, vcF, evs, evP, evB, intsOf, fillC, Value.cells, pt, Value.oneCell', reduceIte, reduceCtorEq, Nat.reduceEqDiff, Nat.reduceAdd, Nat.reduceMul, Nat.reduceLT, Nat.reduceBEq, Nat.reduceLeDiff, Nat.reduceSub] -- r1
  refine ITri.seq ?_
  refine ITri.seq ?_
  refine ITri.reg pok ?_; simp -implicitDefEqProofs (disch := first | decide | exact of_eq_true (eq_true rfl) | omega | assumption) only [ ↓vcD, vcE, ↓vcG, vcF, evs, evP, evB, intsOf, fillC, Value.cells, pt, Value.oneCell', reduceIte, reduceCtorEq, Nat.reduceEqDiff, Nat.reduceAdd, Nat.reduceMul, Nat.reduceLT, Nat.reduceBEq, Nat.reduceLeDiff, Nat.reduceSub] -- r2
  refine ITri.block ?_ -- 0
  refine ITri.loop (fun k : Nat => [(0, slO 3 n openB), (1, .int .i64 life), (2, .int .i64 1), (3, slO 4 m openB), (4, .int .i64 1), (12, pt 5), (13, .int .i64 k)]) (fun _ => []) (fun k => Hp 3 [none, aO wb, aO rb, iO ws, iO rs, some (cO [.slice none 0 0, slO 6 k openB, .slice none 0 0] 1 false), some (cO (rows eR (rcL (ws.take k))) 2 true)]) (fun k => k ≤ n) (fun k => n - k) 0 (by omega) (Wk.gc [0, 1, 2, 3, 4, 5, 6] [(6, .nil)] (of_decide_eq_true rfl) (of_decide_eq_true rfl) rfl rfl (of_decide_eq_true rfl) rfl rfl (by repeat (first | exact xiOK_nil | refine xiOK_cons (by first | trivial | exact roomOK _ (by decide)) ?_)) rfl (by simp -implicitDefEqProofs (disch := first | decide | exact of_eq_true (eq_true rfl) | omega | assumption) only [rcL, List.take_zero, List.map_nil, rows_nil, objOK, sgL, xiL, objAt, nilO, OM, mvL, mv, mvS, okS, okP, mvL_rows, okML, okM, okML_rows, List.getElem?_cons_zero, Option.getD_some, implies_true, imp_self, ne_eq, and_self, true_or, or_true, Nat.zero_mul, Nat.sub_self, openB_self, ↓vcD, vcE, ↓vcG, vcF, evs, evP, evB, intsOf, fillC, Value.cells, pt, Value.oneCell', reduceIte, reduceCtorEq, Nat.reduceEqDiff, Nat.reduceAdd, Nat.reduceMul, Nat.reduceLT, Nat.reduceBEq, Nat.reduceLeDiff, Nat.reduceSub]) (by simp -implicitDefEqProofs (disch := first | decide | exact of_eq_true (eq_true rfl) | omega | assumption) only [rcL, List.take_zero, List.map_nil, rows_nil, valOK, sgL, xiL, mv, mvA, mvL, mvS, okS, okP, okM, okMA, okML, Option.getD_some, implies_true, and_self, true_or, or_true, Int.natCast_add, Int.cast_ofNat_Int, Nat.zero_mul, Nat.sub_self, openB_self, ↓vcD, vcE, ↓vcG, vcF, evs, evP, evB, intsOf, fillC, Value.cells, pt, Value.oneCell', reduceIte, reduceCtorEq, Nat.reduceEqDiff, Nat.reduceAdd, Nat.reduceMul, Nat.reduceLT, Nat.reduceBEq, Nat.reduceLeDiff, Nat.reduceSub]) (fun _ h => by cases h) ⟨rfl, fun _ h => by cases h⟩) fun k hk => ?_
  refine ITri.seq ?_
  refine ITri.seq ?_
  refine ITri.reg pok ?_; simp -implicitDefEqProofs (disch := first | decide | exact of_eq_true (eq_true rfl) | omega | assumption) only [ ↓vcD, vcE, ↓vcG, vcF, evs, evP, evB, intsOf, fillC, Value.cells, pt, Value.oneCell', reduceIte, reduceCtorEq, Nat.reduceEqDiff, Nat.reduceAdd, Nat.reduceMul, Nat.reduceLT, Nat.reduceBEq, Nat.reduceLeDiff, Nat.reduceSub] -- r3
  refine ITri.condD (by rfl) (fun h2 => ?_) (fun h2 => ?_) -- %25
  · have hkn : k < n := by omega
    have hg : (rows eN ws)[k]? = some (.int .i64 (nth ws k)) := getN (by omega)
    have hrl := rc_len (ws := ws) (k := k) (by omega)
    have hsn := rc_snoc (ws := ws) (k := k) (by omega)
    refine ITri.skip ?_; simp only [SeqQ_normal, BlkQ_normal]
    refine ITri.seq ?_
    refine ITri.block ?_ -- 1
    refine ITri.draw pok ?_; simp -implicitDefEqProofs (disch := first | decide | exact of_eq_true (eq_true rfl) | omega | assumption) only [hg, hrl, Int.toNat_natCast,  ↓vcD, vcE, ↓vcG, vcF, evs, evP, evB, intsOf, fillC, Value.cells, pt, Value.oneCell', reduceIte, reduceCtorEq, Nat.reduceEqDiff, Nat.reduceAdd, Nat.reduceMul, Nat.reduceLT, Nat.reduceBEq, Nat.reduceLeDiff, Nat.reduceSub] -- r5
    rw [← hsn]
    refine ITri.reg pok ?_; simp -implicitDefEqProofs (disch := first | decide | exact of_eq_true (eq_true rfl) | omega | assumption) only [ ↓vcD, vcE, ↓vcG, vcF, evs, evP, evB, intsOf, fillC, Value.cells, pt, Value.oneCell', reduceIte, reduceCtorEq, Nat.reduceEqDiff, Nat.reduceAdd, Nat.reduceMul, Nat.reduceLT, Nat.reduceBEq, Nat.reduceLeDiff, Nat.reduceSub] -- r4
    exact LoopQ.next (k + 1) (by omega) (by omega) (Wk.gc [0, 1, 2, 3, 4, 5, 8] [] (of_decide_eq_true rfl) (of_decide_eq_true rfl) rfl rfl (of_decide_eq_true rfl) rfl rfl (by repeat (first | exact xiOK_nil | refine xiOK_cons (by first | trivial | exact roomOK _ (by decide)) ?_)) rfl (by simp -implicitDefEqProofs (disch := first | decide | exact of_eq_true (eq_true rfl) | omega | assumption) only [ objOK, sgL, xiL, objAt, nilO, OM, mvL, mv, mvS, okS, okP, mvL_rows, okML, okM, okML_rows, List.getElem?_cons_zero, Option.getD_some, implies_true, imp_self, ne_eq, and_self, true_or, or_true, Nat.zero_mul, Nat.sub_self, openB_self, ↓vcD, vcE, ↓vcG, vcF, evs, evP, evB, intsOf, fillC, Value.cells, pt, Value.oneCell', reduceIte, reduceCtorEq, Nat.reduceEqDiff, Nat.reduceAdd, Nat.reduceMul, Nat.reduceLT, Nat.reduceBEq, Nat.reduceLeDiff, Nat.reduceSub]) (by simp -implicitDefEqProofs (disch := first | decide | exact of_eq_true (eq_true rfl) | omega | assumption) only [ valOK, sgL, xiL, mv, mvA, mvL, mvS, okS, okP, okM, okMA, okML, Option.getD_some, implies_true, and_self, true_or, or_true, Int.natCast_add, Int.cast_ofNat_Int, Nat.zero_mul, Nat.sub_self, openB_self, ↓vcD, vcE, ↓vcG, vcF, evs, evP, evB, intsOf, fillC, Value.cells, pt, Value.oneCell', reduceIte, reduceCtorEq, Nat.reduceEqDiff, Nat.reduceAdd, Nat.reduceMul, Nat.reduceLT, Nat.reduceBEq, Nat.reduceLeDiff, Nat.reduceSub]) (fun _ h => by cases h) ⟨rfl, fun _ h => by cases h⟩)
  refine ITri.exit ?_; try simp -implicitDefEqProofs (disch := first | decide | exact of_eq_true (eq_true rfl) | omega | assumption) only [ ↓vcD, vcE, ↓vcG, vcF, evs, evP, evB, intsOf, fillC, Value.cells, pt, Value.oneCell', reduceIte, reduceCtorEq, Nat.reduceEqDiff, Nat.reduceAdd, Nat.reduceMul, Nat.reduceLT, Nat.reduceBEq, Nat.reduceLeDiff, Nat.reduceSub]
  obtain rfl : n = k := by omega
  have et : ws.take n = ws := by rw [← hws]; exact List.take_length
  rw [et]
  refine ITri.seq ?_
  refine ITri.seq ?_
  refine ITri.reg pok ?_; simp -implicitDefEqProofs (disch := first | decide | exact of_eq_true (eq_true rfl) | omega | assumption) only [ ↓vcD, vcE, ↓vcG, vcF, evs, evP, evB, intsOf, fillC, Value.cells, pt, Value.oneCell', reduceIte, reduceCtorEq, Nat.reduceEqDiff, Nat.reduceAdd, Nat.reduceMul, Nat.reduceLT, Nat.reduceBEq, Nat.reduceLeDiff, Nat.reduceSub] -- r6
  refine ITri.block ?_ -- 2
  refine ITri.loop (fun p : Nat × Value × List (Option AObj) => [(0, slO 3 n openB), (1, .int .i64 life), (2, .int .i64 1), (3, slO 4 m openB), (4, .int .i64 1), (12, pt 5), (14, .int .i64 p.1)]) (fun _ => []) (fun p => Hp 3 ([none, aO wb, aO rb, iO ws, iO rs, some (cO [p.2.1, slO 6 n openB, .slice none 0 0] 1 false), some (cO (rows eR (rcL ws)) 2 true)] ++ p.2.2)) (fun p => p = (0, .slice none 0 0, []) ∨ p = (1, slO 9 1 openB, opT n life)) (fun p => 1 - p.1) (0, .slice none 0 0, []) (.inl rfl) (Wk.sub ⟨rfl, rfl, rfl, rfl, rfl, rfl, rfl, trivial⟩) (fun p hp => ?_)
  refine ITri.seq ?_
  refine ITri.seq ?_
  refine ITri.reg pok ?_; simp -implicitDefEqProofs (disch := first | decide | exact of_eq_true (eq_true rfl) | omega | assumption) only [ ↓vcD, vcE, ↓vcG, vcF, evs, evP, evB, intsOf, fillC, Value.cells, pt, Value.oneCell', reduceIte, reduceCtorEq, Nat.reduceEqDiff, Nat.reduceAdd, Nat.reduceMul, Nat.reduceLT, Nat.reduceBEq, Nat.reduceLeDiff, Nat.reduceSub] -- r7
  rcases hp with rfl | rfl
  · refine ITri.cond (v := true) rfl (fun _ => ?_) (fun h => by cases h)
    refine ITri.skip ?_; simp only [SeqQ_normal, BlkQ_normal]
    refine ITri.seq ?_
    refine ITri.block ?_ -- 3
    refine ITri.reg pok ?_; simp -implicitDefEqProofs (disch := first | decide | exact of_eq_true (eq_true rfl) | omega | assumption) only [b3, e1,  ↓vcD, vcE, ↓vcG, vcF, evs, evP, evB, intsOf, fillC, Value.cells, pt, Value.oneCell', reduceIte, reduceCtorEq, Nat.reduceEqDiff, Nat.reduceAdd, Nat.reduceMul, Nat.reduceLT, Nat.reduceBEq, Nat.reduceLeDiff, Nat.reduceSub] -- r9
    refine ITri.reg pok ?_; simp -implicitDefEqProofs (disch := first | decide | exact of_eq_true (eq_true rfl) | omega | assumption) only [ ↓vcD, vcE, ↓vcG, vcF, evs, evP, evB, intsOf, fillC, Value.cells, pt, Value.oneCell', reduceIte, reduceCtorEq, Nat.reduceEqDiff, Nat.reduceAdd, Nat.reduceMul, Nat.reduceLT, Nat.reduceBEq, Nat.reduceLeDiff, Nat.reduceSub] -- r8
    exact LoopQ.next (1, slO 9 1 openB, opT n life) (.inr rfl) (by simp) (Wk.sub ⟨rfl, rfl, rfl, rfl, rfl, rfl, rfl, trivial⟩)
  refine ITri.cond (v := false) rfl (fun h => by cases h) (fun _ => ?_)
  refine ITri.exit ?_; try simp -implicitDefEqProofs (disch := first | decide | exact of_eq_true (eq_true rfl) | omega | assumption) only [ ↓vcD, vcE, ↓vcG, vcF, evs, evP, evB, intsOf, fillC, Value.cells, pt, Value.oneCell', reduceIte, reduceCtorEq, Nat.reduceEqDiff, Nat.reduceAdd, Nat.reduceMul, Nat.reduceLT, Nat.reduceBEq, Nat.reduceLeDiff, Nat.reduceSub]
  refine ITri.seq ?_
  refine ITri.seq ?_
  refine ITri.reg pok ?_; simp -implicitDefEqProofs (disch := first | decide | exact of_eq_true (eq_true rfl) | omega | assumption) only [ ↓vcD, vcE, ↓vcG, vcF, evs, evP, evB, intsOf, fillC, Value.cells, pt, Value.oneCell', reduceIte, reduceCtorEq, Nat.reduceEqDiff, Nat.reduceAdd, Nat.reduceMul, Nat.reduceLT, Nat.reduceBEq, Nat.reduceLeDiff, Nat.reduceSub] -- r10
  refine ITri.block ?_ -- 4
  refine ITri.loop (fun k : Nat => [(3, slO 4 m openB), (4, .int .i64 1), (12, pt 5), (15, .int .i64 k)]) (fun _ => []) (fun k => Hp 3 [none, aO wb, aO rb, iO ws, iO rs, some (cO [slO 8 1 openB, slO 6 n openB, slO 9 k openB] 1 false), some (cO (rows eR (rcL ws)) 2 true), some (cO r110 3 false), some (cO [.int .i64 (rcpI n), .int .i64 10, .int .i64 life, .int .i64 0, slO 7 1 1] 5 true), some (cO (rows eR (rtL (rs.take k))) 2 true)]) (fun k => k ≤ m) (fun k => m - k) 0 (by omega) (Wk.gc [0, 1, 2, 3, 4, 5, 6, 7, 9, 10] [(9, .nil)] (of_decide_eq_true rfl) (of_decide_eq_true rfl) rfl rfl (of_decide_eq_true rfl) rfl rfl (by repeat (first | exact xiOK_nil | refine xiOK_cons (by first | trivial | exact roomOK _ (by decide)) ?_)) rfl (by simp -implicitDefEqProofs (disch := first | decide | exact of_eq_true (eq_true rfl) | omega | assumption) only [rtL, List.take_zero, List.map_nil, rows_nil, objOK, sgL, xiL, objAt, nilO, OM, mvL, mv, mvS, okS, okP, mvL_rows, okML, okM, okML_rows, List.getElem?_cons_zero, Option.getD_some, implies_true, imp_self, ne_eq, and_self, true_or, or_true, Nat.zero_mul, Nat.sub_self, openB_self, ↓vcD, vcE, ↓vcG, vcF, evs, evP, evB, intsOf, fillC, Value.cells, pt, Value.oneCell', reduceIte, reduceCtorEq, Nat.reduceEqDiff, Nat.reduceAdd, Nat.reduceMul, Nat.reduceLT, Nat.reduceBEq, Nat.reduceLeDiff, Nat.reduceSub]) (by simp -implicitDefEqProofs (disch := first | decide | exact of_eq_true (eq_true rfl) | omega | assumption) only [rtL, List.take_zero, List.map_nil, rows_nil, valOK, sgL, xiL, mv, mvA, mvL, mvS, okS, okP, okM, okMA, okML, Option.getD_some, implies_true, and_self, true_or, or_true, Int.natCast_add, Int.cast_ofNat_Int, Nat.zero_mul, Nat.sub_self, openB_self, ↓vcD, vcE, ↓vcG, vcF, evs, evP, evB, intsOf, fillC, Value.cells, pt, Value.oneCell', reduceIte, reduceCtorEq, Nat.reduceEqDiff, Nat.reduceAdd, Nat.reduceMul, Nat.reduceLT, Nat.reduceBEq, Nat.reduceLeDiff, Nat.reduceSub]) (fun _ h => by cases h) ⟨rfl, fun _ h => by cases h⟩) fun k hk => ?_
  refine ITri.seq ?_
  refine ITri.seq ?_
  refine ITri.reg pok ?_; simp -implicitDefEqProofs (disch := first | decide | exact of_eq_true (eq_true rfl) | omega | assumption) only [ ↓vcD, vcE, ↓vcG, vcF, evs, evP, evB, intsOf, fillC, Value.cells, pt, Value.oneCell', reduceIte, reduceCtorEq, Nat.reduceEqDiff, Nat.reduceAdd, Nat.reduceMul, Nat.reduceLT, Nat.reduceBEq, Nat.reduceLeDiff, Nat.reduceSub] -- r11
  refine ITri.condD (by rfl) (fun h2 => ?_) (fun h2 => ?_) -- %61
  · have hkn : k < m := by omega
    have hg : (rows eN rs)[k]? = some (.int .i64 (nth rs k)) := getN (by omega)
    have hrl := rt_len (ws := rs) (k := k) (by omega)
    have hsn := rt_snoc (ws := rs) (k := k) (by omega)
    refine ITri.skip ?_; simp only [SeqQ_normal, BlkQ_normal]
    refine ITri.seq ?_
    refine ITri.block ?_ -- 5
    refine ITri.draw pok ?_; simp -implicitDefEqProofs (disch := first | decide | exact of_eq_true (eq_true rfl) | omega | assumption) only [hg, hrl, Int.toNat_natCast,  ↓vcD, vcE, ↓vcG, vcF, evs, evP, evB, intsOf, fillC, Value.cells, pt, Value.oneCell', reduceIte, reduceCtorEq, Nat.reduceEqDiff, Nat.reduceAdd, Nat.reduceMul, Nat.reduceLT, Nat.reduceBEq, Nat.reduceLeDiff, Nat.reduceSub] -- r13
    rw [← hsn]
    refine ITri.reg pok ?_; simp -implicitDefEqProofs (disch := first | decide | exact of_eq_true (eq_true rfl) | omega | assumption) only [ ↓vcD, vcE, ↓vcG, vcF, evs, evP, evB, intsOf, fillC, Value.cells, pt, Value.oneCell', reduceIte, reduceCtorEq, Nat.reduceEqDiff, Nat.reduceAdd, Nat.reduceMul, Nat.reduceLT, Nat.reduceBEq, Nat.reduceLeDiff, Nat.reduceSub] -- r12
    exact LoopQ.next (k + 1) (by omega) (by omega) (Wk.gc [0, 1, 2, 3, 4, 5, 6, 7, 8, 11] [] (of_decide_eq_true rfl) (of_decide_eq_true rfl) rfl rfl (of_decide_eq_true rfl) rfl rfl (by repeat (first | exact xiOK_nil | refine xiOK_cons (by first | trivial | exact roomOK _ (by decide)) ?_)) rfl (by simp -implicitDefEqProofs (disch := first | decide | exact of_eq_true (eq_true rfl) | omega | assumption) only [ objOK, sgL, xiL, objAt, nilO, OM, mvL, mv, mvS, okS, okP, mvL_rows, okML, okM, okML_rows, List.getElem?_cons_zero, Option.getD_some, implies_true, imp_self, ne_eq, and_self, true_or, or_true, Nat.zero_mul, Nat.sub_self, openB_self, ↓vcD, vcE, ↓vcG, vcF, evs, evP, evB, intsOf, fillC, Value.cells, pt, Value.oneCell', reduceIte, reduceCtorEq, Nat.reduceEqDiff, Nat.reduceAdd, Nat.reduceMul, Nat.reduceLT, Nat.reduceBEq, Nat.reduceLeDiff, Nat.reduceSub]) (by simp -implicitDefEqProofs (disch := first | decide | exact of_eq_true (eq_true rfl) | omega | assumption) only [ valOK, sgL, xiL, mv, mvA, mvL, mvS, okS, okP, okM, okMA, okML, Option.getD_some, implies_true, and_self, true_or, or_true, Int.natCast_add, Int.cast_ofNat_Int, Nat.zero_mul, Nat.sub_self, openB_self, ↓vcD, vcE, ↓vcG, vcF, evs, evP, evB, intsOf, fillC, Value.cells, pt, Value.oneCell', reduceIte, reduceCtorEq, Nat.reduceEqDiff, Nat.reduceAdd, Nat.reduceMul, Nat.reduceLT, Nat.reduceBEq, Nat.reduceLeDiff, Nat.reduceSub]) (fun _ h => by cases h) ⟨rfl, fun _ h => by cases h⟩)
  refine ITri.exit ?_; try simp -implicitDefEqProofs (disch := first | decide | exact of_eq_true (eq_true rfl) | omega | assumption) only [ ↓vcD, vcE, ↓vcG, vcF, evs, evP, evB, intsOf, fillC, Value.cells, pt, Value.oneCell', reduceIte, reduceCtorEq, Nat.reduceEqDiff, Nat.reduceAdd, Nat.reduceMul, Nat.reduceLT, Nat.reduceBEq, Nat.reduceLeDiff, Nat.reduceSub]
  obtain rfl : m = k := by omega
  have et2 : rs.take m = rs := by rw [← hrs]; exact List.take_length
  rw [et2]
  have hn1 : ∀ i, i < n → (nth (rcL ws) i).1 = 5 ∧ 0 ≤ (nth (rcL ws) i).2 ∧ (nth (rcL ws) i).2 ≤ 1000000 := fun i hi => by
    have := hw i hi
    unfold rcL
    rw [nth_map (by omega)]
    exact ⟨rfl, this⟩
  have hm1 : ∀ i, i < m → 0 ≤ (nth (rtL rs) i).1 ∧ (nth (rtL rs) i).1 < n ∧ (nth (rtL rs) i).2 = 1000000 := fun i hi => by
    have := hr i hi
    unfold rtL
    rw [nth_map (by omega)]
    exact ⟨this.1, this.2, rfl⟩
  have hN := new_x (A := aO wb) (B := aO rb) (C := iO ws) (D := iO rs) (n := n) (m := m) (rc := rcL ws) (rt := rtL rs) (life := life) (by rw [rcL_len, hws]) (by rw [rtL_len, hrs]) hn hm hl hn1 hm1
  refine ITri.seq ?_
  refine ITri.reg pok ?_; simp -implicitDefEqProofs (disch := first | decide | exact of_eq_true (eq_true rfl) | omega | assumption) only [ ↓vcD, vcE, ↓vcG, vcF, evs, evP, evB, intsOf, fillC, Value.cells, pt, Value.oneCell', reduceIte, reduceCtorEq, Nat.reduceEqDiff, Nat.reduceAdd, Nat.reduceMul, Nat.reduceLT, Nat.reduceBEq, Nat.reduceLeDiff, Nat.reduceSub] -- r14
  refine ⟨_, _, hN, ?_⟩
  try simp -implicitDefEqProofs (disch := first | decide | exact of_eq_true (eq_true rfl) | omega | assumption) only [ ↓vcD, vcE, ↓vcG, vcF, evs, evP, evB, intsOf, fillC, Value.cells, pt, Value.oneCell', reduceIte, reduceCtorEq, Nat.reduceEqDiff, Nat.reduceAdd, Nat.reduceMul, Nat.reduceLT, Nat.reduceBEq, Nat.reduceLeDiff, Nat.reduceSub]
  refine ITri.seq ?_
  refine ITri.seq ?_
  refine ITri.reg pok ?_; simp -implicitDefEqProofs (disch := first | decide | exact of_eq_true (eq_true rfl) | omega | assumption) only [decide_true, Bool.not_true,  ↓vcD, vcE, ↓vcG, vcF, evs, evP, evB, intsOf, fillC, Value.cells, pt, Value.oneCell', reduceIte, reduceCtorEq, Nat.reduceEqDiff, Nat.reduceAdd, Nat.reduceMul, Nat.reduceLT, Nat.reduceBEq, Nat.reduceLeDiff, Nat.reduceSub] -- r15
  refine gen_peq (by kernel_rfl) rfl ?_
  try simp -implicitDefEqProofs (disch := first | decide | exact of_eq_true (eq_true rfl) | omega | assumption) only [ ↓vcD, vcE, ↓vcG, vcF, evs, evP, evB, intsOf, fillC, Value.cells, pt, Value.oneCell', reduceIte, reduceCtorEq, Nat.reduceEqDiff, Nat.reduceAdd, Nat.reduceMul, Nat.reduceLT, Nat.reduceBEq, Nat.reduceLeDiff, Nat.reduceSub]
  refine ITri.cond (v := false) rfl (fun h => by cases h) (fun _ => ?_); refine ITri.skip ?_; simp only [SeqQ_normal, BlkQ_normal]
  refine ITri.seq ?_
  refine ITri.seq ?_
  refine ITri.reg pok ?_; simp -implicitDefEqProofs (disch := first | decide | exact of_eq_true (eq_true rfl) | omega | assumption) only [ ↓vcD, vcE, ↓vcG, vcF, evs, evP, evB, intsOf, fillC, Value.cells, pt, Value.oneCell', reduceIte, reduceCtorEq, Nat.reduceEqDiff, Nat.reduceAdd, Nat.reduceMul, Nat.reduceLT, Nat.reduceBEq, Nat.reduceLeDiff, Nat.reduceSub] -- r17
  refine ITri.block ?_ -- 6
  refine ITri.loop (fun p : Nat × Value × List (Option AObj) => [(4, .int .i64 1), (16, pt 15), (18, .int .i64 p.1)]) (fun _ => []) (fun p => Hp 3 (nM (aO wb) (aO rb) (iO ws) (iO rs) n m (rcL ws) (rtL rs) life ++ nZ n m (rcL ws) (rtL rs) (slO 25 1 openB) p.2.1 (nY n life ++ p.2.2))) (fun p => p = (0, .slice none 0 0, []) ∨ p = (1, slO 28 1 openB, opL)) (fun p => 1 - p.1) (0, .slice none 0 0, []) (.inl rfl) (Wk.sub ⟨rfl, rfl, rfl, trivial⟩) (fun p hp => ?_)
  refine ITri.seq ?_
  refine ITri.seq ?_
  refine ITri.reg pok ?_; simp -implicitDefEqProofs (disch := first | decide | exact of_eq_true (eq_true rfl) | omega | assumption) only [ ↓vcD, vcE, ↓vcG, vcF, evs, evP, evB, intsOf, fillC, Value.cells, pt, Value.oneCell', reduceIte, reduceCtorEq, Nat.reduceEqDiff, Nat.reduceAdd, Nat.reduceMul, Nat.reduceLT, Nat.reduceBEq, Nat.reduceLeDiff, Nat.reduceSub] -- r18
  rcases hp with rfl | rfl
  · refine ITri.cond (v := true) rfl (fun _ => ?_) (fun h => by cases h)
    refine ITri.skip ?_; simp only [SeqQ_normal, BlkQ_normal]
    refine ITri.seq ?_
    refine ITri.block ?_ -- 7
    refine ITri.seq ?_
    refine ITri.reg pok ?_; simp -implicitDefEqProofs (disch := first | decide | exact of_eq_true (eq_true rfl) | omega | assumption) only [ ↓vcD, vcE, ↓vcG, vcF, evs, evP, evB, intsOf, fillC, Value.cells, pt, Value.oneCell', reduceIte, reduceCtorEq, Nat.reduceEqDiff, Nat.reduceAdd, Nat.reduceMul, Nat.reduceLT, Nat.reduceBEq, Nat.reduceLeDiff, Nat.reduceSub] -- r20
    refine ⟨_, _, enter_x, ?_⟩
    try simp -implicitDefEqProofs (disch := first | decide | exact of_eq_true (eq_true rfl) | omega | assumption) only [ ↓vcD, vcE, ↓vcG, vcF, evs, evP, evB, intsOf, fillC, Value.cells, pt, Value.oneCell', reduceIte, reduceCtorEq, Nat.reduceEqDiff, Nat.reduceAdd, Nat.reduceMul, Nat.reduceLT, Nat.reduceBEq, Nat.reduceLeDiff, Nat.reduceSub]
    refine ITri.seq ?_
    refine ITri.reg pok ?_; simp -implicitDefEqProofs (disch := first | decide | exact of_eq_true (eq_true rfl) | omega | assumption) only [decide_true, Bool.not_true,  ↓vcD, vcE, ↓vcG, vcF, evs, evP, evB, intsOf, fillC, Value.cells, pt, Value.oneCell', reduceIte, reduceCtorEq, Nat.reduceEqDiff, Nat.reduceAdd, Nat.reduceMul, Nat.reduceLT, Nat.reduceBEq, Nat.reduceLeDiff, Nat.reduceSub] -- r21
    refine ITri.cond (v := false) rfl (fun h => by cases h) (fun _ => ?_); refine ITri.skip ?_; simp only [SeqQ_normal, BlkQ_normal]
    refine ITri.reg pok ?_; simp -implicitDefEqProofs (disch := first | decide | exact of_eq_true (eq_true rfl) | omega | assumption) only [ ↓vcD, vcE, ↓vcG, vcF, evs, evP, evB, intsOf, fillC, Value.cells, pt, Value.oneCell', reduceIte, reduceCtorEq, Nat.reduceEqDiff, Nat.reduceAdd, Nat.reduceMul, Nat.reduceLT, Nat.reduceBEq, Nat.reduceLeDiff, Nat.reduceSub] -- r19
    exact LoopQ.next (1, slO 28 1 openB, opL) (.inr rfl) (by simp) (Wk.sub ⟨rfl, rfl, rfl, trivial⟩)
  refine ITri.cond (v := false) rfl (fun h => by cases h) (fun _ => ?_)
  refine ITri.exit ?_; try simp -implicitDefEqProofs (disch := first | decide | exact of_eq_true (eq_true rfl) | omega | assumption) only [ ↓vcD, vcE, ↓vcG, vcF, evs, evP, evB, intsOf, fillC, Value.cells, pt, Value.oneCell', reduceIte, reduceCtorEq, Nat.reduceEqDiff, Nat.reduceAdd, Nat.reduceMul, Nat.reduceLT, Nat.reduceBEq, Nat.reduceLeDiff, Nat.reduceSub]
  refine ITri.seq ?_
  refine ITri.reg pok ?_; simp -implicitDefEqProofs (disch := first | decide | exact of_eq_true (eq_true rfl) | omega | assumption) only [ ↓vcD, vcE, ↓vcG, vcF, evs, evP, evB, intsOf, fillC, Value.cells, pt, Value.oneCell', reduceIte, reduceCtorEq, Nat.reduceEqDiff, Nat.reduceAdd, Nat.reduceMul, Nat.reduceLT, Nat.reduceBEq, Nat.reduceLeDiff, Nat.reduceSub] -- r23
  refine ITri.ret ?_; exact EndX.mk (by simp) (by rfl) (by rfl) (by rfl)
end
end Go.Proofs.Ythoigkgjidcklaa
