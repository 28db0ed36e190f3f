/-
  Chapters 1 and 8 by names: numbers, products, quotients, ranges.
-/
import Derived.Test.YtlhhkmkclmedgaaBowA
set_option linter.unusedSimpArgs false
set_option linter.unusedVariables false
namespace Go.Proofs.Ytlhhkmkclmedgaa
open Go.RowKit Go.Vm
set_option maxRecDepth 100000
instance flI : FlatE eI 1 := ⟨fun _ => rfl, fun _ => rfl, fun _ => rfl⟩
instance flII : FlatE eII 2 := ⟨fun _ => rfl, fun _ => rfl, fun _ => rfl⟩
theorem getI {xs : List Int} {i : Nat} (hi : i < xs.length) : (rows eI xs)[i]? = some (.int .i64 (nth xs i)) := rows_get1 (f := eI) hi
theorem takeII {xs : List (Int × Int)} {i : Nat} (hi : i < xs.length) : takeC (rows eII xs) (i * 2) 2 = some [.int .i64 (nth xs i).1, .int .i64 (nth xs i).2] := rows_takeC (f := eII) hi
abbrev H1 (cs : List Value) : AH := Hp 2 [none, some (.cells ⟨cs, 0, false⟩)]
abbrev s1 (n c : Nat) : Value := .slice (some ⟨1, 0, none⟩) n c
abbrev h0m : AH := Hp 1 [none]

def idxF {α : Type} (p : α → Bool) (xs : List α) : Int := match xs.findIdx? p with | some i => (i : Int) | none => -1
theorem idxF_none {α : Type} {p : α → Bool} {xs : List α} (h : xs.any p = false) : idxF p xs = -1 := by
  unfold idxF
  rw [List.findIdx?_eq_none_iff.2 (fun x hx => by simpa using List.any_eq_false.1 h x hx)]
theorem idxF_some {α : Type} [Inhabited α] {p : α → Bool} {xs : List α} {i : Nat} (hi : i < xs.length) (hp : p (nth xs i) = true) (hb : ∀ j, j < i → p (nth xs j) = false) : idxF p xs = i := by
  unfold idxF
  rw [List.findIdx?_eq_some_iff_getElem.2 ⟨hi, by rw [← List.getElem?_eq_some_iff.1 (get_nth hi) |>.2] at hp; exact hp, fun j hj => by
    have := hb j hj
    rw [← List.getElem?_eq_some_iff.1 (get_nth (show j < xs.length by omega)) |>.2] at this
    simp [this]⟩]
theorem idxF_any {α : Type} {p : α → Bool} {xs : List α} : decide (0 ≤ idxF p xs) = xs.any p := by
  cases h : xs.any p with
  | false => rw [idxF_none h]; rfl
  | true =>
    unfold idxF
    cases e : xs.findIdx? p with
    | none => rw [List.findIdx?_eq_none_iff] at e; rw [List.any_eq_true] at h; obtain ⟨x, hx, h⟩ := h; rw [e x hx] at h; cases h
    | some i => simp
theorem any_before {α : Type} [Inhabited α] {p : α → Bool} {xs : List α} {n : Nat} (hn : xs.length = n) (hj : ∀ j, j < n → p (nth xs j) = false) : xs.any p = false := by
  rw [List.any_eq_false]
  intro x hx
  obtain ⟨i, hi, rfl⟩ := List.mem_iff_getElem.1 hx
  have := hj i (by omega)
  rw [show xs[i] = nth xs i from (List.getElem?_eq_some_iff.1 (get_nth hi)).2]
  simp [this]

/- slices.IndexFunc[[]int,int] · slots 19 · names 0:s 1:f 2:s 3:f 5:i · results [4] -/
def ir64_r0 : IC := .reg [⟨some 4, none, false, .mv (.k (.int .i64 0))⟩] (some [0, 1])
def ir64_r1 : IC := .reg [⟨some 6, none, false, .mv (.t 0)⟩,
  ⟨some 7, none, false, .len (.t 6)⟩,
  ⟨some 8, none, false, .mv (.k (.int .i64 0))⟩] (some [0, 1, 7, 8])
def ir64_r2 : IC := .reg [⟨some 9, none, false, .cmp .lss (.t 8) (.t 7)⟩] (some [0, 1, 7, 8, 9])
def ir64_1 : IC := .cond (.t 9) .skip (.exit 0)
def ir64_r3 : IC := .reg [⟨some 10, none, false, .mv (.t 8)⟩,
  ⟨some 5, none, false, .mv (.t 10)⟩] (some [0, 1, 5, 7, 8])
def ir64_r4 : IC := .reg [⟨some 11, none, false, .mv (.t 1)⟩,
  ⟨some 12, none, false, .mv (.t 0)⟩,
  ⟨some 13, none, false, .mv (.t 5)⟩,
  ⟨some 14, none, false, .iad 1 (.t 12) (.t 13)⟩,
  ⟨some 15, none, false, .ldc (.t 14)⟩,
  ⟨some 16, none, false, .call (.t 11) [(.t 15)]⟩] (some [0, 1, 5, 7, 8, 16])
def ir64_r5 : IC := .reg [⟨some 17, none, false, .mv (.t 5)⟩,
  ⟨some 4, none, false, .mv (.t 17)⟩] (some [4])
def ir64_2 : IC := .seq ir64_r5 .ret
def ir64_3 : IC := .cond (.t 16) ir64_2 .skip
def ir64_4 : IC := .seq ir64_r4 ir64_3
def ir64_5 : IC := .seq ir64_r3 ir64_4
def ir64_6 : IC := .block 1 ir64_5
def ir64_r6 : IC := .reg [⟨some 18, none, false, .ar .add (.t 8) (.k (.int .i64 1))⟩,
  ⟨some 8, none, false, .mv (.t 18)⟩] (some [0, 1, 7, 8])
def ir64_7 : IC := .seq ir64_6 ir64_r6
def ir64_8 : IC := .seq ir64_1 ir64_7
def ir64_9 : IC := .seq ir64_r2 ir64_8
def ir64_10 : IC := .loop ir64_9
def ir64_11 : IC := .block 0 ir64_10
def ir64_12 : IC := .seq ir64_r1 ir64_11
def ir64_r7 : IC := .reg [⟨some 4, none, false, .mv (.k (.int .i64 (-1)))⟩] (some [4])
def ir64_13 : IC := .seq ir64_r7 .ret
def ir64_14 : IC := .seq ir64_12 ir64_13
def ir64_15 : IC := .seq ir64_r0 ir64_14
def ir64 : IC := ir64_15
theorem fn64 : FnIs Try.prog 64 ir64 19 [.tmp 4] := ⟨Try.f64, Try.f64.body.getD .skip, Try.func64, by kernel_rfl, by kernel_rfl, by kernel_rfl, by kernel_rfl⟩
/- slices.ContainsFunc[[]int,int] · slots 9 · names 0:s 1:f 2:s 3:f · results [4] -/
def ir32_r0 : IC := .reg [⟨some 4, none, false, .mv (.k (.bool false))⟩] (some [0, 1])
def ir32_r1 : IC := .reg [⟨some 5, none, false, .mv (.t 0)⟩,
  ⟨some 6, none, false, .mv (.t 1)⟩,
  ⟨some 7, none, false, .call (.f 64) [(.t 5), (.t 6)]⟩,
  ⟨some 8, none, false, .cmp .geq (.t 7) (.k (.int .i64 0))⟩,
  ⟨some 4, none, false, .mv (.t 8)⟩] (some [4])
def ir32_1 : IC := .seq ir32_r1 .ret
def ir32_2 : IC := .seq ir32_r0 ir32_1
def ir32 : IC := ir32_2
theorem fn32 : FnIs Try.prog 32 ir32 9 [.tmp 4] := ⟨Try.f32, Try.f32.body.getD .skip, Try.func32, by kernel_rfl, by kernel_rfl, by kernel_rfl, by kernel_rfl⟩
/- slices.IndexFunc[[]boule/api.Range,boule/api.Range] · slots 19 · names 0:s 1:f 2:s 3:f 5:i · results [4] -/
def ir78_r0 : IC := .reg [⟨some 4, none, false, .mv (.k (.int .i64 0))⟩] (some [0, 1])
def ir78_r1 : IC := .reg [⟨some 6, none, false, .mv (.t 0)⟩,
  ⟨some 7, none, false, .len (.t 6)⟩,
  ⟨some 8, none, false, .mv (.k (.int .i64 0))⟩] (some [0, 1, 7, 8])
def ir78_r2 : IC := .reg [⟨some 9, none, false, .cmp .lss (.t 8) (.t 7)⟩] (some [0, 1, 7, 8, 9])
def ir78_1 : IC := .cond (.t 9) .skip (.exit 0)
def ir78_r3 : IC := .reg [⟨some 10, none, false, .mv (.t 8)⟩,
  ⟨some 5, none, false, .mv (.t 10)⟩] (some [0, 1, 5, 7, 8])
def ir78_r4 : IC := .reg [⟨some 11, none, false, .mv (.t 1)⟩,
  ⟨some 12, none, false, .mv (.t 0)⟩,
  ⟨some 13, none, false, .mv (.t 5)⟩,
  ⟨some 14, none, false, .iad 2 (.t 12) (.t 13)⟩,
  ⟨some 15, none, false, .lda 2 (.t 14)⟩,
  ⟨some 16, none, false, .call (.t 11) [(.t 15)]⟩] (some [0, 1, 5, 7, 8, 16])
def ir78_r5 : IC := .reg [⟨some 17, none, false, .mv (.t 5)⟩,
  ⟨some 4, none, false, .mv (.t 17)⟩] (some [4])
def ir78_2 : IC := .seq ir78_r5 .ret
def ir78_3 : IC := .cond (.t 16) ir78_2 .skip
def ir78_4 : IC := .seq ir78_r4 ir78_3
def ir78_5 : IC := .seq ir78_r3 ir78_4
def ir78_6 : IC := .block 1 ir78_5
def ir78_r6 : IC := .reg [⟨some 18, none, false, .ar .add (.t 8) (.k (.int .i64 1))⟩,
  ⟨some 8, none, false, .mv (.t 18)⟩] (some [0, 1, 7, 8])
def ir78_7 : IC := .seq ir78_6 ir78_r6
def ir78_8 : IC := .seq ir78_1 ir78_7
def ir78_9 : IC := .seq ir78_r2 ir78_8
def ir78_10 : IC := .loop ir78_9
def ir78_11 : IC := .block 0 ir78_10
def ir78_12 : IC := .seq ir78_r1 ir78_11
def ir78_r7 : IC := .reg [⟨some 4, none, false, .mv (.k (.int .i64 (-1)))⟩] (some [4])
def ir78_13 : IC := .seq ir78_r7 .ret
def ir78_14 : IC := .seq ir78_12 ir78_13
def ir78_15 : IC := .seq ir78_r0 ir78_14
def ir78 : IC := ir78_15
theorem fn78 : FnIs Try.prog 78 ir78 19 [.tmp 4] := ⟨Try.f78, Try.f78.body.getD .skip, Try.func78, by kernel_rfl, by kernel_rfl, by kernel_rfl, by kernel_rfl⟩
/- slices.ContainsFunc[[]boule/api.Range,boule/api.Range] · slots 9 · names 0:s 1:f 2:s 3:f · results [4] -/
def ir69_r0 : IC := .reg [⟨some 4, none, false, .mv (.k (.bool false))⟩] (some [0, 1])
def ir69_r1 : IC := .reg [⟨some 5, none, false, .mv (.t 0)⟩,
  ⟨some 6, none, false, .mv (.t 1)⟩,
  ⟨some 7, none, false, .call (.f 78) [(.t 5), (.t 6)]⟩,
  ⟨some 8, none, false, .cmp .geq (.t 7) (.k (.int .i64 0))⟩,
  ⟨some 4, none, false, .mv (.t 8)⟩] (some [4])
def ir69_1 : IC := .seq ir69_r1 .ret
def ir69_2 : IC := .seq ir69_r0 ir69_1
def ir69 : IC := ir69_2
theorem fn69 : FnIs Try.prog 69 ir69 9 [.tmp 4] := ⟨Try.f69, Try.f69.body.getD .skip, Try.func69, by kernel_rfl, by kernel_rfl, by kernel_rfl, by kernel_rfl⟩
/- boule/units.is$1 · slots 9 · names 0:n 1:n · results [2] -/
def ir71_r0 : IC := .reg [⟨some 2, none, false, .mv (.k (.bool false))⟩] (some [0])
def ir71_r1 : IC := .reg [⟨some 3, none, false, .mv (.t 0)⟩,
  ⟨some 4, none, false, .cmp .lss (.t 3) (.k (.int .i64 (-1000000000000000)))⟩,
  ⟨some 5, none, false, .mv (.t 4)⟩,
  ⟨some 6, some (5, false), false, .mv (.t 0)⟩,
  ⟨some 7, some (5, false), false, .cmp .gtr (.t 6) (.k (.int .i64 1000000000000000))⟩,
  ⟨some 8, none, false, .pick (.t 5) (.k (.bool true)) (.t 7)⟩,
  ⟨some 2, none, false, .mv (.t 8)⟩] (some [2])
def ir71_1 : IC := .seq ir71_r1 .ret
def ir71_2 : IC := .seq ir71_r0 ir71_1
def ir71 : IC := ir71_2
theorem fn71 : FnIs Try.prog 71 ir71 9 [.tmp 2] := ⟨Try.f71, Try.f71.body.getD .skip, Try.func71, by kernel_rfl, by kernel_rfl, by kernel_rfl, by kernel_rfl⟩
/- boule/units.is · slots 6 · names 0:l 1:l · results [2] -/
def ir43_r0 : IC := .reg [⟨some 2, none, false, .mv (.k (.bool false))⟩] (some [0])
def ir43_r1 : IC := .reg [⟨some 3, none, false, .mv (.t 0)⟩,
  ⟨some 4, none, false, .call (.f 32) [(.t 3), (.f 71)]⟩,
  ⟨some 5, none, false, .not (.t 4)⟩,
  ⟨some 2, none, false, .mv (.t 5)⟩] (some [2])
def ir43_1 : IC := .seq ir43_r1 .ret
def ir43_2 : IC := .seq ir43_r0 ir43_1
def ir43 : IC := ir43_2
theorem fn43 : FnIs Try.prog 43 ir43 6 [.tmp 2] := ⟨Try.f43, Try.f43.body.getD .skip, Try.func43, by kernel_rfl, by kernel_rfl, by kernel_rfl, by kernel_rfl⟩
/- boule/units.valid$1 · slots 17 · names 0:r 1:r · results [2] -/
def ir70_r0 : IC := .reg [⟨some 1, none, false, .box (.t 0)⟩,
  ⟨some 2, none, false, .mv (.k (.bool false))⟩] (some [1])
def ir70_r1 : IC := .reg [⟨some 3, none, false, .fad 0 (.t 1)⟩,
  ⟨some 4, none, false, .ldc (.t 3)⟩,
  ⟨some 5, none, false, .fad 1 (.t 1)⟩,
  ⟨some 6, none, false, .ldc (.t 5)⟩,
  ⟨some 7, none, false, .bsl 1 2 [(.int .i64 0), (.int .i64 0)] [(0, (.t 4)), (1, (.t 6))]⟩,
  ⟨some 8, none, false, .call (.f 43) [(.t 7)]⟩,
  ⟨some 9, none, false, .not (.t 8)⟩,
  ⟨some 10, none, false, .mv (.t 9)⟩,
  ⟨some 11, some (10, false), false, .fad 0 (.t 1)⟩,
  ⟨some 12, some (10, false), false, .ldc (.t 11)⟩,
  ⟨some 13, some (10, false), false, .fad 1 (.t 1)⟩,
  ⟨some 14, some (10, false), false, .ldc (.t 13)⟩,
  ⟨some 15, some (10, false), false, .cmp .gtr (.t 12) (.t 14)⟩,
  ⟨some 16, none, false, .pick (.t 10) (.k (.bool true)) (.t 15)⟩,
  ⟨some 2, none, false, .mv (.t 16)⟩] (some [2])
def ir70_1 : IC := .seq ir70_r1 .ret
def ir70_2 : IC := .seq ir70_r0 ir70_1
def ir70 : IC := ir70_2
theorem fn70 : FnIs Try.prog 70 ir70 17 [.tmp 2] := ⟨Try.f70, Try.f70.body.getD .skip, Try.func70, by kernel_rfl, by kernel_rfl, by kernel_rfl, by kernel_rfl⟩
/- boule/units.valid · slots 6 · names 0:l 1:l · results [2] -/
def ir39_r0 : IC := .reg [⟨some 2, none, false, .mv (.k (.bool false))⟩] (some [0])
def ir39_r1 : IC := .reg [⟨some 3, none, false, .mv (.t 0)⟩,
  ⟨some 4, none, false, .call (.f 69) [(.t 3), (.f 70)]⟩,
  ⟨some 5, none, false, .not (.t 4)⟩,
  ⟨some 2, none, false, .mv (.t 5)⟩] (some [2])
def ir39_1 : IC := .seq ir39_r1 .ret
def ir39_2 : IC := .seq ir39_r0 ir39_1
def ir39 : IC := ir39_2
theorem fn39 : FnIs Try.prog 39 ir39 6 [.tmp 2] := ⟨Try.f39, Try.f39.body.getD .skip, Try.func39, by kernel_rfl, by kernel_rfl, by kernel_rfl, by kernel_rfl⟩
/- (boule/units.frac).ok · slots 17 · names 0:f 1:f · results [2] -/
def ir40_r0 : IC := .reg [⟨some 1, none, false, .box (.t 0)⟩,
  ⟨some 2, none, false, .mv (.k (.bool false))⟩] (some [1])
def ir40_r1 : IC := .reg [⟨some 3, none, false, .fad 0 (.t 1)⟩,
  ⟨some 4, none, false, .ldc (.t 3)⟩,
  ⟨some 5, none, false, .bsl 1 1 [(.int .i64 0)] [(0, (.t 4))]⟩,
  ⟨some 6, none, false, .call (.f 43) [(.t 5)]⟩,
  ⟨some 7, none, false, .mv (.t 6)⟩,
  ⟨some 8, some (7, true), false, .fad 1 (.t 1)⟩,
  ⟨some 9, some (7, true), false, .ldc (.t 8)⟩,
  ⟨some 10, some (7, true), false, .cmp .geq (.t 9) (.k (.int .i64 1))⟩,
  ⟨some 11, none, false, .pick (.t 7) (.t 10) (.k (.bool false))⟩,
  ⟨some 12, none, false, .mv (.t 11)⟩,
  ⟨some 13, some (12, true), false, .fad 1 (.t 1)⟩,
  ⟨some 14, some (12, true), false, .ldc (.t 13)⟩,
  ⟨some 15, some (12, true), false, .cmp .leq (.t 14) (.k (.int .i64 1000000000000000))⟩,
  ⟨some 16, none, false, .pick (.t 12) (.t 15) (.k (.bool false))⟩,
  ⟨some 2, none, false, .mv (.t 16)⟩] (some [2])
def ir40_1 : IC := .seq ir40_r1 .ret
def ir40_2 : IC := .seq ir40_r0 ir40_1
def ir40 : IC := ir40_2
theorem fn40 : FnIs Try.prog 40 ir40 17 [.tmp 2] := ⟨Try.f40, Try.f40.body.getD .skip, Try.func40, by kernel_rfl, by kernel_rfl, by kernel_rfl, by kernel_rfl⟩
theorem indexI_f (g : Nat) (p : Int → Bool) (HG : ∀ x (h : AH), h.sees 0 = true → Fc Try.prog g [.int .i64 x] h (.bool (p x)) h) (n : Nat) (xs : List Int) (hn : xs.length = n) (hb : n ≤ 1000000) {h : AH} {s : Value} (h0 : h.sees 0 = true) (r : Rd h s n (rows eI xs)) :
    Fc Try.prog 64 [s, .func (.func g) #[] #[]] h (.int .i64 (idxF p xs)) h := by
  refine Fc.lift1 (mk := fun ss => ss ++ [.func (.func g) #[] #[]]) (mkv := fun _ => .int .i64 (idxF p xs)) (os := []) (fun c => ?_) (MkL.app rfl) (MkV.const rfl) (rows_no (f := eI) xs) (fun o ho => by cases ho) h0 r
  refine Fc.intro0 (h := H1 (rows eI xs)) fn64 (by simp) rfl rfl ?_; simp only [argF, List.cons_append, List.nil_append]
  refine ITri.seq ?_
  refine ITri.reg pok ?_; simp -implicitDefEqProofs (disch := first | decide | exact of_eq_true (eq_true rfl) | omega | assumption) only [ ↓vcD, vcE, ↓vcG, vcF, evs, evP, evB, intsOf, fillC, Value.cells, pt, Value.oneCell', reduceIte, reduceCtorEq, Nat.reduceEqDiff, Nat.reduceAdd, Nat.reduceMul, Nat.reduceLT, Nat.reduceBEq, Nat.reduceLeDiff, Nat.reduceSub] -- r0 slices.go:107
  refine ITri.seq ?_
  refine ITri.seq ?_
  refine ITri.reg pok ?_; simp -implicitDefEqProofs (disch := first | decide | exact of_eq_true (eq_true rfl) | omega | assumption) only [ ↓vcD, vcE, ↓vcG, vcF, evs, evP, evB, intsOf, fillC, Value.cells, pt, Value.oneCell', reduceIte, reduceCtorEq, Nat.reduceEqDiff, Nat.reduceAdd, Nat.reduceMul, Nat.reduceLT, Nat.reduceBEq, Nat.reduceLeDiff, Nat.reduceSub] -- r1
  refine ITri.block ?_
  refine ITri.loop (fun k : Nat => [(0, s1 n c), (1, .func (.func g) #[] #[]), (7, .int .i64 n), (8, .int .i64 k)]) (fun _ => []) (fun k => H1 (rows eI xs)) (fun k => k ≤ n ∧ ∀ j, j < k → p (nth xs j) = false) (fun k => n - k) 0 ⟨Nat.zero_le _, fun j hj => by omega⟩ (Wk.sub ⟨rfl, rfl, rfl, rfl, trivial⟩) fun k hk => ?_
  obtain ⟨hk, hj⟩ := hk
  refine ITri.seq ?_
  refine ITri.reg pok ?_; simp -implicitDefEqProofs (disch := first | decide | exact of_eq_true (eq_true rfl) | omega | assumption) only [ ↓vcD, vcE, ↓vcG, vcF, evs, evP, evB, intsOf, fillC, Value.cells, pt, Value.oneCell', reduceIte, reduceCtorEq, Nat.reduceEqDiff, Nat.reduceAdd, Nat.reduceMul, Nat.reduceLT, Nat.reduceBEq, Nat.reduceLeDiff, Nat.reduceSub]
  refine ITri.seq ?_
  refine ITri.condD (by rfl) (fun h1 => ?_) (fun h1 => ?_)
  · have h2 : k < n := by omega
    refine ITri.skip ?_; simp only [SeqQ_normal, BlkQ_normal]
    refine ITri.seq ?_
    refine ITri.block ?_
    refine ITri.seq ?_
    refine ITri.reg pok ?_; simp -implicitDefEqProofs (disch := first | decide | exact of_eq_true (eq_true rfl) | omega | assumption) only [ ↓vcD, vcE, ↓vcG, vcF, evs, evP, evB, intsOf, fillC, Value.cells, pt, Value.oneCell', reduceIte, reduceCtorEq, Nat.reduceEqDiff, Nat.reduceAdd, Nat.reduceMul, Nat.reduceLT, Nat.reduceBEq, Nat.reduceLeDiff, Nat.reduceSub]
    refine ITri.seq ?_
    refine ITri.reg pok ?_; simp -implicitDefEqProofs (disch := first | decide | exact of_eq_true (eq_true rfl) | omega | assumption) only [getI,  ↓vcD, vcE, ↓vcG, vcF, evs, evP, evB, intsOf, fillC, Value.cells, pt, Value.oneCell', reduceIte, reduceCtorEq, Nat.reduceEqDiff, Nat.reduceAdd, Nat.reduceMul, Nat.reduceLT, Nat.reduceBEq, Nat.reduceLeDiff, Nat.reduceSub]
    refine ⟨_, _, HG _ _ (sees0 rfl (of_decide_eq_true rfl)), ?_⟩
    try simp -implicitDefEqProofs (disch := first | decide | exact of_eq_true (eq_true rfl) | omega | assumption) only [ ↓vcD, vcE, ↓vcG, vcF, evs, evP, evB, intsOf, fillC, Value.cells, pt, Value.oneCell', reduceIte, reduceCtorEq, Nat.reduceEqDiff, Nat.reduceAdd, Nat.reduceMul, Nat.reduceLT, Nat.reduceBEq, Nat.reduceLeDiff, Nat.reduceSub]
    refine ITri.cond (by rfl) (fun h3 => ?_) (fun h3 => ?_)
    · refine ITri.seq ?_
      refine ITri.reg pok ?_; simp -implicitDefEqProofs (disch := first | decide | exact of_eq_true (eq_true rfl) | omega | assumption) only [ ↓vcD, vcE, ↓vcG, vcF, evs, evP, evB, intsOf, fillC, Value.cells, pt, Value.oneCell', reduceIte, reduceCtorEq, Nat.reduceEqDiff, Nat.reduceAdd, Nat.reduceMul, Nat.reduceLT, Nat.reduceBEq, Nat.reduceLeDiff, Nat.reduceSub]
      refine ITri.ret ?_; exact EndR.plain (by simp) (by rfl) (by rw [idxF_some (by omega) h3 hj]; rfl) (by rfl)
    refine ITri.skip ?_; simp only [SeqQ_normal, BlkQ_normal]
    refine ITri.reg pok ?_; simp -implicitDefEqProofs (disch := first | decide | exact of_eq_true (eq_true rfl) | omega | assumption) only [ ↓vcD, vcE, ↓vcG, vcF, evs, evP, evB, intsOf, fillC, Value.cells, pt, Value.oneCell', reduceIte, reduceCtorEq, Nat.reduceEqDiff, Nat.reduceAdd, Nat.reduceMul, Nat.reduceLT, Nat.reduceBEq, Nat.reduceLeDiff, Nat.reduceSub]
    refine LoopQ.next (k + 1) ⟨by omega, fun j hj2 => ?_⟩ (by omega) (Wk.sub ⟨rfl, rfl, rfl, rfl, trivial⟩)
    rcases Nat.lt_or_ge j k with q | q
    · exact hj j q
    · obtain rfl : j = k := by omega
      exact h3
  refine ITri.exit ?_; try simp -implicitDefEqProofs (disch := first | decide | exact of_eq_true (eq_true rfl) | omega | assumption) only [ ↓vcD, vcE, ↓vcG, vcF, evs, evP, evB, intsOf, fillC, Value.cells, pt, Value.oneCell', reduceIte, reduceCtorEq, Nat.reduceEqDiff, Nat.reduceAdd, Nat.reduceMul, Nat.reduceLT, Nat.reduceBEq, Nat.reduceLeDiff, Nat.reduceSub]
  obtain rfl : n = k := by omega
  refine ITri.seq ?_
  refine ITri.reg pok ?_; simp -implicitDefEqProofs (disch := first | decide | exact of_eq_true (eq_true rfl) | omega | assumption) only [ ↓vcD, vcE, ↓vcG, vcF, evs, evP, evB, intsOf, fillC, Value.cells, pt, Value.oneCell', reduceIte, reduceCtorEq, Nat.reduceEqDiff, Nat.reduceAdd, Nat.reduceMul, Nat.reduceLT, Nat.reduceBEq, Nat.reduceLeDiff, Nat.reduceSub]
  refine ITri.ret ?_; exact EndR.plain (by simp) (by rfl) (by rw [idxF_none (any_before hn hj)]; rfl) (by rfl)
theorem containsI_f (g : Nat) (p : Int → Bool) (HG : ∀ x (h : AH), h.sees 0 = true → Fc Try.prog g [.int .i64 x] h (.bool (p x)) h) (n : Nat) (xs : List Int) (hn : xs.length = n) (hb : n ≤ 1000000) {h : AH} {s : Value} (h0 : h.sees 0 = true) (r : Rd h s n (rows eI xs)) :
    Fc Try.prog 32 [s, .func (.func g) #[] #[]] h (.bool (xs.any p)) h := by
  refine Fc.lift1 (mk := fun ss => ss ++ [.func (.func g) #[] #[]]) (mkv := fun _ => .bool (xs.any p)) (os := []) (fun c => ?_) (MkL.app rfl) (MkV.const rfl) (rows_no (f := eI) xs) (fun o ho => by cases ho) h0 r
  refine Fc.intro0 (h := H1 (rows eI xs)) fn32 (by simp) rfl rfl ?_; simp only [argF, List.cons_append, List.nil_append]
  refine ITri.seq ?_
  refine ITri.reg pok ?_; simp -implicitDefEqProofs (disch := first | decide | exact of_eq_true (eq_true rfl) | omega | assumption) only [ ↓vcD, vcE, ↓vcG, vcF, evs, evP, evB, intsOf, fillC, Value.cells, pt, Value.oneCell', reduceIte, reduceCtorEq, Nat.reduceEqDiff, Nat.reduceAdd, Nat.reduceMul, Nat.reduceLT, Nat.reduceBEq, Nat.reduceLeDiff, Nat.reduceSub]
  refine ITri.seq ?_
  refine ITri.reg pok ?_; simp -implicitDefEqProofs (disch := first | decide | exact of_eq_true (eq_true rfl) | omega | assumption) only [ ↓vcD, vcE, ↓vcG, vcF, evs, evP, evB, intsOf, fillC, Value.cells, pt, Value.oneCell', reduceIte, reduceCtorEq, Nat.reduceEqDiff, Nat.reduceAdd, Nat.reduceMul, Nat.reduceLT, Nat.reduceBEq, Nat.reduceLeDiff, Nat.reduceSub]
  refine ⟨_, _, indexI_f g p HG n xs hn hb (sees0 rfl (of_decide_eq_true rfl)) (Rd.hq rfl rfl), ?_⟩
  try simp -implicitDefEqProofs (disch := first | decide | exact of_eq_true (eq_true rfl) | omega | assumption) only [ ↓vcD, vcE, ↓vcG, vcF, evs, evP, evB, intsOf, fillC, Value.cells, pt, Value.oneCell', reduceIte, reduceCtorEq, Nat.reduceEqDiff, Nat.reduceAdd, Nat.reduceMul, Nat.reduceLT, Nat.reduceBEq, Nat.reduceLeDiff, Nat.reduceSub]
  refine ITri.ret ?_; exact EndR.plain (by simp) (by rfl) (by rw [idxF_any]; rfl) (by rfl)
theorem indexR_f (g : Nat) (p : Int × Int → Bool) (HG : ∀ x (h : AH), h.sees 0 = true → Fc Try.prog g [.agg #[.int .i64 x.1, .int .i64 x.2]] h (.bool (p x)) h) (n : Nat) (xs : List (Int × Int)) (hn : xs.length = n) (hb : n ≤ 1000000) {h : AH} {s : Value} (h0 : h.sees 0 = true) (r : Rd h s n (rows eII xs)) :
    Fc Try.prog 78 [s, .func (.func g) #[] #[]] h (.int .i64 (idxF p xs)) h := by
  refine Fc.lift1 (mk := fun ss => ss ++ [.func (.func g) #[] #[]]) (mkv := fun _ => .int .i64 (idxF p xs)) (os := []) (fun c => ?_) (MkL.app rfl) (MkV.const rfl) (rows_no (f := eII) xs) (fun o ho => by cases ho) h0 r
  refine Fc.intro0 (h := H1 (rows eII xs)) fn78 (by simp) rfl rfl ?_; simp only [argF, List.cons_append, List.nil_append]
  refine ITri.seq ?_
  refine ITri.reg pok ?_; simp -implicitDefEqProofs (disch := first | decide | exact of_eq_true (eq_true rfl) | omega | assumption) only [ ↓vcD, vcE, ↓vcG, vcF, evs, evP, evB, intsOf, fillC, Value.cells, pt, Value.oneCell', reduceIte, reduceCtorEq, Nat.reduceEqDiff, Nat.reduceAdd, Nat.reduceMul, Nat.reduceLT, Nat.reduceBEq, Nat.reduceLeDiff, Nat.reduceSub] -- r0 slices.go:107
  refine ITri.seq ?_
  refine ITri.seq ?_
  refine ITri.reg pok ?_; simp -implicitDefEqProofs (disch := first | decide | exact of_eq_true (eq_true rfl) | omega | assumption) only [ ↓vcD, vcE, ↓vcG, vcF, evs, evP, evB, intsOf, fillC, Value.cells, pt, Value.oneCell', reduceIte, reduceCtorEq, Nat.reduceEqDiff, Nat.reduceAdd, Nat.reduceMul, Nat.reduceLT, Nat.reduceBEq, Nat.reduceLeDiff, Nat.reduceSub] -- r1
  refine ITri.block ?_
  refine ITri.loop (fun k : Nat => [(0, s1 n c), (1, .func (.func g) #[] #[]), (7, .int .i64 n), (8, .int .i64 k)]) (fun _ => []) (fun k => H1 (rows eII xs)) (fun k => k ≤ n ∧ ∀ j, j < k → p (nth xs j) = false) (fun k => n - k) 0 ⟨Nat.zero_le _, fun j hj => by omega⟩ (Wk.sub ⟨rfl, rfl, rfl, rfl, trivial⟩) fun k hk => ?_
  obtain ⟨hk, hj⟩ := hk
  refine ITri.seq ?_
  refine ITri.reg pok ?_; simp -implicitDefEqProofs (disch := first | decide | exact of_eq_true (eq_true rfl) | omega | assumption) only [ ↓vcD, vcE, ↓vcG, vcF, evs, evP, evB, intsOf, fillC, Value.cells, pt, Value.oneCell', reduceIte, reduceCtorEq, Nat.reduceEqDiff, Nat.reduceAdd, Nat.reduceMul, Nat.reduceLT, Nat.reduceBEq, Nat.reduceLeDiff, Nat.reduceSub]
  refine ITri.seq ?_
  refine ITri.condD (by rfl) (fun h1 => ?_) (fun h1 => ?_)
  · have h2 : k < n := by omega
    refine ITri.skip ?_; simp only [SeqQ_normal, BlkQ_normal]
    refine ITri.seq ?_
    refine ITri.block ?_
    refine ITri.seq ?_
    refine ITri.reg pok ?_; simp -implicitDefEqProofs (disch := first | decide | exact of_eq_true (eq_true rfl) | omega | assumption) only [ ↓vcD, vcE, ↓vcG, vcF, evs, evP, evB, intsOf, fillC, Value.cells, pt, Value.oneCell', reduceIte, reduceCtorEq, Nat.reduceEqDiff, Nat.reduceAdd, Nat.reduceMul, Nat.reduceLT, Nat.reduceBEq, Nat.reduceLeDiff, Nat.reduceSub]
    refine ITri.seq ?_
    refine ITri.reg pok ?_; simp -implicitDefEqProofs (disch := first | decide | exact of_eq_true (eq_true rfl) | omega | assumption) only [takeII,  ↓vcD, vcE, ↓vcG, vcF, evs, evP, evB, intsOf, fillC, Value.cells, pt, Value.oneCell', reduceIte, reduceCtorEq, Nat.reduceEqDiff, Nat.reduceAdd, Nat.reduceMul, Nat.reduceLT, Nat.reduceBEq, Nat.reduceLeDiff, Nat.reduceSub]
    refine ⟨_, _, HG _ _ (sees0 rfl (of_decide_eq_true rfl)), ?_⟩
    try simp -implicitDefEqProofs (disch := first | decide | exact of_eq_true (eq_true rfl) | omega | assumption) only [ ↓vcD, vcE, ↓vcG, vcF, evs, evP, evB, intsOf, fillC, Value.cells, pt, Value.oneCell', reduceIte, reduceCtorEq, Nat.reduceEqDiff, Nat.reduceAdd, Nat.reduceMul, Nat.reduceLT, Nat.reduceBEq, Nat.reduceLeDiff, Nat.reduceSub]
    refine ITri.cond (by rfl) (fun h3 => ?_) (fun h3 => ?_)
    · refine ITri.seq ?_
      refine ITri.reg pok ?_; simp -implicitDefEqProofs (disch := first | decide | exact of_eq_true (eq_true rfl) | omega | assumption) only [ ↓vcD, vcE, ↓vcG, vcF, evs, evP, evB, intsOf, fillC, Value.cells, pt, Value.oneCell', reduceIte, reduceCtorEq, Nat.reduceEqDiff, Nat.reduceAdd, Nat.reduceMul, Nat.reduceLT, Nat.reduceBEq, Nat.reduceLeDiff, Nat.reduceSub]
      refine ITri.ret ?_; exact EndR.plain (by simp) (by rfl) (by rw [idxF_some (by omega) h3 hj]; rfl) (by rfl)
    refine ITri.skip ?_; simp only [SeqQ_normal, BlkQ_normal]
    refine ITri.reg pok ?_; simp -implicitDefEqProofs (disch := first | decide | exact of_eq_true (eq_true rfl) | omega | assumption) only [ ↓vcD, vcE, ↓vcG, vcF, evs, evP, evB, intsOf, fillC, Value.cells, pt, Value.oneCell', reduceIte, reduceCtorEq, Nat.reduceEqDiff, Nat.reduceAdd, Nat.reduceMul, Nat.reduceLT, Nat.reduceBEq, Nat.reduceLeDiff, Nat.reduceSub]
    refine LoopQ.next (k + 1) ⟨by omega, fun j hj2 => ?_⟩ (by omega) (Wk.sub ⟨rfl, rfl, rfl, rfl, trivial⟩)
    rcases Nat.lt_or_ge j k with q | q
    · exact hj j q
    · obtain rfl : j = k := by omega
      exact h3
  refine ITri.exit ?_; try simp -implicitDefEqProofs (disch := first | decide | exact of_eq_true (eq_true rfl) | omega | assumption) only [ ↓vcD, vcE, ↓vcG, vcF, evs, evP, evB, intsOf, fillC, Value.cells, pt, Value.oneCell', reduceIte, reduceCtorEq, Nat.reduceEqDiff, Nat.reduceAdd, Nat.reduceMul, Nat.reduceLT, Nat.reduceBEq, Nat.reduceLeDiff, Nat.reduceSub]
  obtain rfl : n = k := by omega
  refine ITri.seq ?_
  refine ITri.reg pok ?_; simp -implicitDefEqProofs (disch := first | decide | exact of_eq_true (eq_true rfl) | omega | assumption) only [ ↓vcD, vcE, ↓vcG, vcF, evs, evP, evB, intsOf, fillC, Value.cells, pt, Value.oneCell', reduceIte, reduceCtorEq, Nat.reduceEqDiff, Nat.reduceAdd, Nat.reduceMul, Nat.reduceLT, Nat.reduceBEq, Nat.reduceLeDiff, Nat.reduceSub]
  refine ITri.ret ?_; exact EndR.plain (by simp) (by rfl) (by rw [idxF_none (any_before hn hj)]; rfl) (by rfl)
theorem containsR_f (g : Nat) (p : Int × Int → Bool) (HG : ∀ x (h : AH), h.sees 0 = true → Fc Try.prog g [.agg #[.int .i64 x.1, .int .i64 x.2]] h (.bool (p x)) h) (n : Nat) (xs : List (Int × Int)) (hn : xs.length = n) (hb : n ≤ 1000000) {h : AH} {s : Value} (h0 : h.sees 0 = true) (r : Rd h s n (rows eII xs)) :
    Fc Try.prog 69 [s, .func (.func g) #[] #[]] h (.bool (xs.any p)) h := by
  refine Fc.lift1 (mk := fun ss => ss ++ [.func (.func g) #[] #[]]) (mkv := fun _ => .bool (xs.any p)) (os := []) (fun c => ?_) (MkL.app rfl) (MkV.const rfl) (rows_no (f := eII) xs) (fun o ho => by cases ho) h0 r
  refine Fc.intro0 (h := H1 (rows eII xs)) fn69 (by simp) rfl rfl ?_; simp only [argF, List.cons_append, List.nil_append]
  refine ITri.seq ?_
  refine ITri.reg pok ?_; simp -implicitDefEqProofs (disch := first | decide | exact of_eq_true (eq_true rfl) | omega | assumption) only [ ↓vcD, vcE, ↓vcG, vcF, evs, evP, evB, intsOf, fillC, Value.cells, pt, Value.oneCell', reduceIte, reduceCtorEq, Nat.reduceEqDiff, Nat.reduceAdd, Nat.reduceMul, Nat.reduceLT, Nat.reduceBEq, Nat.reduceLeDiff, Nat.reduceSub]
  refine ITri.seq ?_
  refine ITri.reg pok ?_; simp -implicitDefEqProofs (disch := first | decide | exact of_eq_true (eq_true rfl) | omega | assumption) only [ ↓vcD, vcE, ↓vcG, vcF, evs, evP, evB, intsOf, fillC, Value.cells, pt, Value.oneCell', reduceIte, reduceCtorEq, Nat.reduceEqDiff, Nat.reduceAdd, Nat.reduceMul, Nat.reduceLT, Nat.reduceBEq, Nat.reduceLeDiff, Nat.reduceSub]
  refine ⟨_, _, indexR_f g p HG n xs hn hb (sees0 rfl (of_decide_eq_true rfl)) (Rd.hq rfl rfl), ?_⟩
  try simp -implicitDefEqProofs (disch := first | decide | exact of_eq_true (eq_true rfl) | omega | assumption) only [ ↓vcD, vcE, ↓vcG, vcF, evs, evP, evB, intsOf, fillC, Value.cells, pt, Value.oneCell', reduceIte, reduceCtorEq, Nat.reduceEqDiff, Nat.reduceAdd, Nat.reduceMul, Nat.reduceLT, Nat.reduceBEq, Nat.reduceLeDiff, Nat.reduceSub]
  refine ITri.ret ?_; exact EndR.plain (by simp) (by rfl) (by rw [idxF_any]; rfl) (by rfl)

/-- What is no number. -/
def farB (n : Int) : Bool := decide (n < -1000000000000000) || decide (1000000000000000 < n)
theorem is1_f (n : Int) (h : AH) (h0 : h.sees 0 = true) : Fc Try.prog 71 [.int .i64 n] h (.bool (farB n)) h := by
  refine Fc.lift0 ?_ rfl rfl h0
  refine Fc.intro0 fn71 (by simp) rfl rfl ?_; simp only [argF]
  refine ITri.seq ?_
  refine ITri.reg pok ?_; simp -implicitDefEqProofs (disch := first | decide | exact of_eq_true (eq_true rfl) | omega | assumption) only [ ↓vcD, vcE, ↓vcG, vcF, evs, evP, evB, intsOf, fillC, Value.cells, pt, Value.oneCell', reduceIte, reduceCtorEq, Nat.reduceEqDiff, Nat.reduceAdd, Nat.reduceMul, Nat.reduceLT, Nat.reduceBEq, Nat.reduceLeDiff, Nat.reduceSub]
  refine ITri.seq ?_
  by_cases g : n < -1000000000000000
  · refine ITri.reg pok ?_; simp -implicitDefEqProofs (disch := first | decide | exact of_eq_true (eq_true rfl) | omega | assumption) only [g, decide_true,  ↓vcD, vcE, ↓vcG, vcF, evs, evP, evB, intsOf, fillC, Value.cells, pt, Value.oneCell', reduceIte, reduceCtorEq, Nat.reduceEqDiff, Nat.reduceAdd, Nat.reduceMul, Nat.reduceLT, Nat.reduceBEq, Nat.reduceLeDiff, Nat.reduceSub]
    refine ITri.ret ?_; exact EndR.plain (by simp) (by rfl) (by unfold farB; rw [decide_eq_true g]; rfl) (by rfl)
  · refine ITri.reg pok ?_; simp -implicitDefEqProofs (disch := first | decide | exact of_eq_true (eq_true rfl) | omega | assumption) only [g, decide_false,  ↓vcD, vcE, ↓vcG, vcF, evs, evP, evB, intsOf, fillC, Value.cells, pt, Value.oneCell', reduceIte, reduceCtorEq, Nat.reduceEqDiff, Nat.reduceAdd, Nat.reduceMul, Nat.reduceLT, Nat.reduceBEq, Nat.reduceLeDiff, Nat.reduceSub]
    refine ITri.ret ?_; exact EndR.plain (by simp) (by rfl) (by unfold farB; rw [decide_eq_false g]; rfl) (by rfl)
theorem is_f (n : Nat) (xs : List Int) (hn : xs.length = n) (hb : n ≤ 1000000) {h : AH} {s : Value} (h0 : h.sees 0 = true) (r : Rd h s n (rows eI xs)) :
    Fc Try.prog 43 [s] h (.bool (!xs.any farB)) h := by
  refine Fc.lift1 (mk := fun ss => ss ++ []) (mkv := fun _ => .bool (!xs.any farB)) (os := []) (fun c => ?_) (MkL.app rfl) (MkV.const rfl) (rows_no (f := eI) xs) (fun o ho => by cases ho) h0 r
  refine Fc.intro0 (h := H1 (rows eI xs)) fn43 (by simp) rfl rfl ?_; simp only [argF, List.cons_append, List.nil_append]
  refine ITri.seq ?_
  refine ITri.reg pok ?_; simp -implicitDefEqProofs (disch := first | decide | exact of_eq_true (eq_true rfl) | omega | assumption) only [ ↓vcD, vcE, ↓vcG, vcF, evs, evP, evB, intsOf, fillC, Value.cells, pt, Value.oneCell', reduceIte, reduceCtorEq, Nat.reduceEqDiff, Nat.reduceAdd, Nat.reduceMul, Nat.reduceLT, Nat.reduceBEq, Nat.reduceLeDiff, Nat.reduceSub]
  refine ITri.seq ?_
  refine ITri.reg pok ?_; simp -implicitDefEqProofs (disch := first | decide | exact of_eq_true (eq_true rfl) | omega | assumption) only [ ↓vcD, vcE, ↓vcG, vcF, evs, evP, evB, intsOf, fillC, Value.cells, pt, Value.oneCell', reduceIte, reduceCtorEq, Nat.reduceEqDiff, Nat.reduceAdd, Nat.reduceMul, Nat.reduceLT, Nat.reduceBEq, Nat.reduceLeDiff, Nat.reduceSub]
  refine ⟨_, _, containsI_f 71 farB is1_f n xs hn hb (sees0 rfl (of_decide_eq_true rfl)) (Rd.hq rfl rfl), ?_⟩
  try simp -implicitDefEqProofs (disch := first | decide | exact of_eq_true (eq_true rfl) | omega | assumption) only [ ↓vcD, vcE, ↓vcG, vcF, evs, evP, evB, intsOf, fillC, Value.cells, pt, Value.oneCell', reduceIte, reduceCtorEq, Nat.reduceEqDiff, Nat.reduceAdd, Nat.reduceMul, Nat.reduceLT, Nat.reduceBEq, Nat.reduceLeDiff, Nat.reduceSub]
  refine ITri.ret ?_; exact EndR.plain (by simp) (by rfl) (by rfl) (by rfl)
def badR (r : Int × Int) : Bool := [r.1, r.2].any farB || decide (r.2 < r.1)
theorem valid1_f (x : Int × Int) (h : AH) (h0 : h.sees 0 = true) : Fc Try.prog 70 [.agg #[.int .i64 x.1, .int .i64 x.2]] h (.bool (badR x)) h := by
  refine Fc.lift0 ?_ rfl rfl h0
  refine Fc.intro0 fn70 (by simp) rfl rfl ?_; simp only [argF]
  refine ITri.seq ?_
  refine ITri.reg pok ?_; simp -implicitDefEqProofs (disch := first | decide | exact of_eq_true (eq_true rfl) | omega | assumption) only [ ↓vcD, vcE, ↓vcG, vcF, evs, evP, evB, intsOf, fillC, Value.cells, pt, Value.oneCell', reduceIte, reduceCtorEq, Nat.reduceEqDiff, Nat.reduceAdd, Nat.reduceMul, Nat.reduceLT, Nat.reduceBEq, Nat.reduceLeDiff, Nat.reduceSub]
  refine ITri.seq ?_
  cases g : [x.1, x.2].any farB with
  | true =>
    refine ITri.reg pok ?_; simp -implicitDefEqProofs (disch := first | decide | exact of_eq_true (eq_true rfl) | omega | assumption) only [ ↓vcD, vcE, ↓vcG, vcF, evs, evP, evB, intsOf, fillC, Value.cells, pt, Value.oneCell', reduceIte, reduceCtorEq, Nat.reduceEqDiff, Nat.reduceAdd, Nat.reduceMul, Nat.reduceLT, Nat.reduceBEq, Nat.reduceLeDiff, Nat.reduceSub]
    refine ⟨_, _, is_f 2 [x.1, x.2] rfl (by omega) (sees0 rfl (of_decide_eq_true rfl)) (Rd.hq rfl rfl), ?_⟩
    simp -implicitDefEqProofs (disch := first | decide | exact of_eq_true (eq_true rfl) | omega | assumption) only [g,  ↓vcD, vcE, ↓vcG, vcF, evs, evP, evB, intsOf, fillC, Value.cells, pt, Value.oneCell', reduceIte, reduceCtorEq, Nat.reduceEqDiff, Nat.reduceAdd, Nat.reduceMul, Nat.reduceLT, Nat.reduceBEq, Nat.reduceLeDiff, Nat.reduceSub]
    refine ITri.ret ?_; exact EndR.plain (by simp) (by rfl) (by unfold badR; rw [g]; rfl) (by rfl)
  | false =>
    refine ITri.reg pok ?_; simp -implicitDefEqProofs (disch := first | decide | exact of_eq_true (eq_true rfl) | omega | assumption) only [ ↓vcD, vcE, ↓vcG, vcF, evs, evP, evB, intsOf, fillC, Value.cells, pt, Value.oneCell', reduceIte, reduceCtorEq, Nat.reduceEqDiff, Nat.reduceAdd, Nat.reduceMul, Nat.reduceLT, Nat.reduceBEq, Nat.reduceLeDiff, Nat.reduceSub]
    refine ⟨_, _, is_f 2 [x.1, x.2] rfl (by omega) (sees0 rfl (of_decide_eq_true rfl)) (Rd.hq rfl rfl), ?_⟩
    simp -implicitDefEqProofs (disch := first | decide | exact of_eq_true (eq_true rfl) | omega | assumption) only [g,  ↓vcD, vcE, ↓vcG, vcF, evs, evP, evB, intsOf, fillC, Value.cells, pt, Value.oneCell', reduceIte, reduceCtorEq, Nat.reduceEqDiff, Nat.reduceAdd, Nat.reduceMul, Nat.reduceLT, Nat.reduceBEq, Nat.reduceLeDiff, Nat.reduceSub]
    refine ITri.ret ?_; exact EndR.plain (by simp) (by rfl) (by unfold badR; rw [g]; rfl) (by rfl)
theorem valid_f (n : Nat) (xs : List (Int × Int)) (hn : xs.length = n) (hb : n ≤ 1000000) {h : AH} {s : Value} (h0 : h.sees 0 = true) (r : Rd h s n (rows eII xs)) :
    Fc Try.prog 39 [s] h (.bool (!xs.any badR)) h := by
  refine Fc.lift1 (mk := fun ss => ss ++ []) (mkv := fun _ => .bool (!xs.any badR)) (os := []) (fun c => ?_) (MkL.app rfl) (MkV.const rfl) (rows_no (f := eII) xs) (fun o ho => by cases ho) h0 r
  refine Fc.intro0 (h := H1 (rows eII xs)) fn39 (by simp) rfl rfl ?_; simp only [argF, List.cons_append, List.nil_append]
  refine ITri.seq ?_
  refine ITri.reg pok ?_; simp -implicitDefEqProofs (disch := first | decide | exact of_eq_true (eq_true rfl) | omega | assumption) only [ ↓vcD, vcE, ↓vcG, vcF, evs, evP, evB, intsOf, fillC, Value.cells, pt, Value.oneCell', reduceIte, reduceCtorEq, Nat.reduceEqDiff, Nat.reduceAdd, Nat.reduceMul, Nat.reduceLT, Nat.reduceBEq, Nat.reduceLeDiff, Nat.reduceSub]
  refine ITri.seq ?_
  refine ITri.reg pok ?_; simp -implicitDefEqProofs (disch := first | decide | exact of_eq_true (eq_true rfl) | omega | assumption) only [ ↓vcD, vcE, ↓vcG, vcF, evs, evP, evB, intsOf, fillC, Value.cells, pt, Value.oneCell', reduceIte, reduceCtorEq, Nat.reduceEqDiff, Nat.reduceAdd, Nat.reduceMul, Nat.reduceLT, Nat.reduceBEq, Nat.reduceLeDiff, Nat.reduceSub]
  refine ⟨_, _, containsR_f 70 badR valid1_f n xs hn hb (sees0 rfl (of_decide_eq_true rfl)) (Rd.hq rfl rfl), ?_⟩
  try simp -implicitDefEqProofs (disch := first | decide | exact of_eq_true (eq_true rfl) | omega | assumption) only [ ↓vcD, vcE, ↓vcG, vcF, evs, evP, evB, intsOf, fillC, Value.cells, pt, Value.oneCell', reduceIte, reduceCtorEq, Nat.reduceEqDiff, Nat.reduceAdd, Nat.reduceMul, Nat.reduceLT, Nat.reduceBEq, Nat.reduceLeDiff, Nat.reduceSub]
  refine ITri.ret ?_; exact EndR.plain (by simp) (by rfl) (by rfl) (by rfl)
/-- A fraction that is valid. -/
def okFr2 (a b : Int) : Bool := !farB a && decide (1 ≤ b) && decide (b ≤ 1000000000000000)
theorem frOk_f (a b : Int) {h : AH} (h0 : h.sees 0 = true) : Fc Try.prog 40 [.agg #[.int .i64 a, .int .i64 b]] h (.bool (okFr2 a b)) h := by
  refine Fc.lift0 ?_ rfl rfl h0
  refine Fc.intro0 fn40 (by simp) rfl rfl ?_; simp only [argF]
  refine ITri.seq ?_
  refine ITri.reg pok ?_; simp -implicitDefEqProofs (disch := first | decide | exact of_eq_true (eq_true rfl) | omega | assumption) only [ ↓vcD, vcE, ↓vcG, vcF, evs, evP, evB, intsOf, fillC, Value.cells, pt, Value.oneCell', reduceIte, reduceCtorEq, Nat.reduceEqDiff, Nat.reduceAdd, Nat.reduceMul, Nat.reduceLT, Nat.reduceBEq, Nat.reduceLeDiff, Nat.reduceSub]
  refine ITri.seq ?_
  have ea : [a].any farB = farB a := by simp
  cases g : farB a with
  | true =>
    refine ITri.reg pok ?_; simp -implicitDefEqProofs (disch := first | decide | exact of_eq_true (eq_true rfl) | omega | assumption) only [ ↓vcD, vcE, ↓vcG, vcF, evs, evP, evB, intsOf, fillC, Value.cells, pt, Value.oneCell', reduceIte, reduceCtorEq, Nat.reduceEqDiff, Nat.reduceAdd, Nat.reduceMul, Nat.reduceLT, Nat.reduceBEq, Nat.reduceLeDiff, Nat.reduceSub]
    refine ⟨_, _, is_f 1 [a] rfl (by omega) (sees0 rfl (of_decide_eq_true rfl)) (Rd.hq rfl rfl), ?_⟩
    simp -implicitDefEqProofs (disch := first | decide | exact of_eq_true (eq_true rfl) | omega | assumption) only [ea, g,  ↓vcD, vcE, ↓vcG, vcF, evs, evP, evB, intsOf, fillC, Value.cells, pt, Value.oneCell', reduceIte, reduceCtorEq, Nat.reduceEqDiff, Nat.reduceAdd, Nat.reduceMul, Nat.reduceLT, Nat.reduceBEq, Nat.reduceLeDiff, Nat.reduceSub]
    refine ITri.ret ?_; exact EndR.plain (by simp) (by rfl) (by unfold okFr2; rw [g]; rfl) (by rfl)
  | false =>
    by_cases g2 : 1 ≤ b
    · refine ITri.reg pok ?_; simp -implicitDefEqProofs (disch := first | decide | exact of_eq_true (eq_true rfl) | omega | assumption) only [ ↓vcD, vcE, ↓vcG, vcF, evs, evP, evB, intsOf, fillC, Value.cells, pt, Value.oneCell', reduceIte, reduceCtorEq, Nat.reduceEqDiff, Nat.reduceAdd, Nat.reduceMul, Nat.reduceLT, Nat.reduceBEq, Nat.reduceLeDiff, Nat.reduceSub]
      refine ⟨_, _, is_f 1 [a] rfl (by omega) (sees0 rfl (of_decide_eq_true rfl)) (Rd.hq rfl rfl), ?_⟩
      simp -implicitDefEqProofs (disch := first | decide | exact of_eq_true (eq_true rfl) | omega | assumption) only [ea, g, g2, decide_true,  ↓vcD, vcE, ↓vcG, vcF, evs, evP, evB, intsOf, fillC, Value.cells, pt, Value.oneCell', reduceIte, reduceCtorEq, Nat.reduceEqDiff, Nat.reduceAdd, Nat.reduceMul, Nat.reduceLT, Nat.reduceBEq, Nat.reduceLeDiff, Nat.reduceSub]
      refine ITri.ret ?_; exact EndR.plain (by simp) (by rfl) (by unfold okFr2; rw [g, decide_eq_true g2]; rfl) (by rfl)
    · refine ITri.reg pok ?_; simp -implicitDefEqProofs (disch := first | decide | exact of_eq_true (eq_true rfl) | omega | assumption) only [ ↓vcD, vcE, ↓vcG, vcF, evs, evP, evB, intsOf, fillC, Value.cells, pt, Value.oneCell', reduceIte, reduceCtorEq, Nat.reduceEqDiff, Nat.reduceAdd, Nat.reduceMul, Nat.reduceLT, Nat.reduceBEq, Nat.reduceLeDiff, Nat.reduceSub]
      refine ⟨_, _, is_f 1 [a] rfl (by omega) (sees0 rfl (of_decide_eq_true rfl)) (Rd.hq rfl rfl), ?_⟩
      simp -implicitDefEqProofs (disch := first | decide | exact of_eq_true (eq_true rfl) | omega | assumption) only [ea, g, g2, decide_false,  ↓vcD, vcE, ↓vcG, vcF, evs, evP, evB, intsOf, fillC, Value.cells, pt, Value.oneCell', reduceIte, reduceCtorEq, Nat.reduceEqDiff, Nat.reduceAdd, Nat.reduceMul, Nat.reduceLT, Nat.reduceBEq, Nat.reduceLeDiff, Nat.reduceSub]
      refine ITri.ret ?_; exact EndR.plain (by simp) (by rfl) (by unfold okFr2; rw [g, decide_eq_false g2]; rfl) (by rfl)
end Go.Proofs.Ytlhhkmkclmedgaa
