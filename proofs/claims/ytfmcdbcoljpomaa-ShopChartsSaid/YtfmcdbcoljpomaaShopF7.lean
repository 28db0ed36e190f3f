/-
  Chapter 11, by names: a chart's watch takes a value in; pieces.
-/
import Derived.Test.YtfmcdbcoljpomaaShopF5
import Derived.Test.YtfmcdbcoljpomaaShopF6
set_option linter.unusedSimpArgs false
set_option linter.unusedVariables false
namespace Go.Vm
open Go Go.RowKit
/-- Behind a piece: these slots, this memory. -/
def AtF (l2 : Fr) (h2 : AH) : AEx → Fr → List Nat → AH → Prop := fun e l ms h => e = .normal ∧ ms = [] ∧ h = h2 ∧ subF l l2
theorem AtF.mk {l l2 : Fr} {h2 : AH} (hd : subF l l2) : AtF l2 h2 .normal l [] h2 := ⟨rfl, rfl, rfl, hd⟩
theorem ITri.atF {P : Program} {nt b : Nat} {rd : Option Nat} {ic : IC} {l l2 : Fr} {h h2 : AH} {Q : AEx → Fr → List Nat → AH → Prop} (T : ITri P nt rd b ic l [] h (AtF l2 h2)) (q : Q .normal l2 [] h2) : ITri P nt rd b ic l [] h Q := by
  refine ITri.cut (fun _ : Unit => l2) (fun _ => []) (fun _ => h2) (fun _ => True) (T.mono ?_) (fun _ _ => q)
  rintro e l' ms h' ⟨rfl, rfl, rfl, hd⟩
  exact CutQ.mk () trivial (Wk.sub hd)
/-- A sequence of states, each one step behind the one before. -/
theorem seq_ex {σ : Type} (I : Nat → σ → Prop) (R : Nat → σ → σ → Prop) (n : Nat) (s0 : σ) (h0 : I 0 s0) (step : ∀ k s, k < n → I k s → ∃ s', I (k + 1) s' ∧ R k s s') : ∃ f : Nat → σ, f 0 = s0 ∧ (∀ k, k ≤ n → I k (f k)) ∧ ∀ k, k < n → R k (f k) (f (k + 1)) := by
  induction n with
  | zero => exact ⟨fun _ => s0, rfl, fun k hk => by obtain rfl : k = 0 := by omega
                                                    exact h0, fun k hk => by omega⟩
  | succ n ih =>
    obtain ⟨f, f0, f1, f2⟩ := ih fun k s hk hI => step k s (by omega) hI
    obtain ⟨s', i1, i2⟩ := step n (f n) (by omega) (f1 n (Nat.le_refl _))
    refine ⟨fun k => if k ≤ n then f k else s', by show (if 0 ≤ n then f 0 else s') = s0; rw [if_pos (Nat.zero_le _)]; exact f0, fun k hk => ?_, fun k hk => ?_⟩
    · show I k (if k ≤ n then f k else s')
      by_cases h : k ≤ n
      · rw [if_pos h]; exact f1 k h
      · rw [if_neg h]
        obtain rfl : k = n + 1 := by omega
        exact i1
    · show R k (if k ≤ n then f k else s') (if k + 1 ≤ n then f (k + 1) else s')
      by_cases h : k + 1 ≤ n
      · rw [if_pos (by omega), if_pos h]; exact f2 k (by omega)
      · rw [if_pos (by omega), if_neg h]
        obtain rfl : k = n := by omega
        exact i2
theorem low_get {L T : List (Option AObj)} {k : Nat} {x : Option AObj} (h : L[k]? = some x) : (L ++ T)[k]? = some x := by rw [List.getElem?_append_left (List.getElem?_eq_some_iff.1 h).1]; exact h
theorem get_lt {L : List (Option AObj)} {k : Nat} {x : Option AObj} (h : L[k]? = some x) : k < L.length := (List.getElem?_eq_some_iff.1 h).1
end Go.Vm
namespace Go.Proofs.Ytfmcdbcoljpomaa
open Go.RowKit Go.Vm
set_option maxRecDepth 100000
/- (*boule/shop.watch).take · slots 103 · names 0:w 1:value 2:w 3:value 5:l 6:k 7:r 8:side 9:off 10:at 11:far · results [4] -/
def ir47_r0 : IC := .reg [⟨some 4, none, false, .mv (.k (.slice none 0 0))⟩] (some [0, 1])
def ir47_r1 : IC := .reg [⟨some 5, none, false, .mv (.k (.slice none 0 0))⟩] (some [0, 1, 5])
def ir47_r2 : IC := .reg [⟨some 12, none, false, .mv (.t 0)⟩,
  ⟨some 13, none, false, .nilck (.t 12)⟩,
  ⟨some 14, none, false, .fad 0 (.t 13)⟩,
  ⟨some 15, none, false, .fad 1 (.t 14)⟩,
  ⟨some 16, none, false, .ldc (.t 15)⟩,
  ⟨some 17, none, false, .len (.t 16)⟩,
  ⟨some 18, none, false, .mv (.k (.int .i64 0))⟩] (some [0, 1, 5, 16, 17, 18])
def ir47_r3 : IC := .reg [⟨some 19, none, false, .cmp .lss (.t 18) (.t 17)⟩] (some [0, 1, 5, 16, 17, 18, 19])
def ir47_1 : IC := .cond (.t 19) .skip (.exit 0)
def ir47_r4 : IC := .reg [⟨some 20, none, false, .mv (.t 18)⟩,
  ⟨some 21, none, false, .iad 3 (.t 16) (.t 18)⟩,
  ⟨some 22, none, false, .lda 3 (.t 21)⟩,
  ⟨some 7, none, false, .alloc [(.int .i64 0), (.int .i64 0), (.int .i64 0)]⟩,
  ⟨some 6, none, false, .mv (.t 20)⟩,
  ⟨none, none, false, .st 3 (.t 7) (.t 22)⟩] (some [0, 1, 5, 6, 7, 16, 17, 18])
def ir47_r5 : IC := .draw [(⟨some 23, none, false, .mv (.t 1)⟩, false, 0, 0),
  (⟨some 24, none, false, .mv (.t 0)⟩, false, 0, 0),
  (⟨some 25, none, false, .nilck (.t 24)⟩, false, 2, 0),
  (⟨some 26, none, false, .fad 0 (.t 25)⟩, false, 6, 0),
  (⟨some 27, none, false, .fad 0 (.t 26)⟩, false, 14, 0),
  (⟨some 28, none, false, .ldc (.t 27)⟩, true, 30, 1),
  (⟨some 29, none, false, .ar .sub (.t 23) (.t 28)⟩, false, 63, 0),
  (⟨some 8, none, false, .mv (.k (.int .i64 1))⟩, false, 0, 0),
  (⟨some 9, none, false, .mv (.t 29)⟩, false, 255, 0)] (some [0, 1, 5, 6, 7, 8, 9, 16, 17, 18])
def ir47_r6 : IC := .reg [⟨some 30, none, false, .mv (.t 9)⟩,
  ⟨some 31, none, false, .cmp .lss (.t 30) (.k (.int .i64 0))⟩] (some [0, 1, 5, 6, 7, 8, 9, 16, 17, 18, 31])
def ir47_r7 : IC := .reg [⟨some 32, none, false, .mv (.t 9)⟩,
  ⟨some 33, none, false, .neg (.t 32)⟩,
  ⟨some 8, none, false, .mv (.k (.int .i64 (-1)))⟩,
  ⟨some 9, none, false, .mv (.t 33)⟩] (some [0, 1, 5, 6, 7, 8, 9, 16, 17, 18])
def ir47_2 : IC := .cond (.t 31) ir47_r7 .skip
def ir47_3 : IC := .seq ir47_r6 ir47_2
def ir47_r8 : IC := .reg [⟨some 34, none, false, .mv (.t 9)⟩,
  ⟨some 35, none, false, .fad 2 (.t 7)⟩,
  ⟨some 36, none, false, .ldc (.t 35)⟩,
  ⟨some 37, none, false, .cmp .leq (.t 34) (.t 36)⟩] (some [0, 1, 5, 6, 7, 8, 16, 17, 18, 37])
def ir47_4 : IC := .cond (.t 37) (.exit 1) .skip
def ir47_5 : IC := .seq ir47_r8 ir47_4
def ir47_r9 : IC := .reg [⟨some 38, none, false, .mv (.t 6)⟩,
  ⟨some 39, none, false, .mv (.t 8)⟩,
  ⟨some 40, none, false, .bld [(.int .i64 0), (.int .i64 0)] [(0, 1, (.t 38)), (1, 1, (.t 39))]⟩,
  ⟨some 10, none, false, .alloc [(.int .i64 0), (.int .i64 0)]⟩,
  ⟨none, none, false, .st 2 (.t 10) (.t 40)⟩] (some [0, 1, 5, 6, 7, 8, 10, 16, 17, 18])
def ir47_r10 : IC := .draw [(⟨some 41, none, false, .mv (.t 0)⟩, false, 0, 0),
  (⟨some 42, none, false, .nilck (.t 41)⟩, false, 1, 0),
  (⟨some 43, none, false, .fad 3 (.t 42)⟩, false, 3, 0),
  (⟨some 44, none, false, .ldc (.t 43)⟩, false, 7, 1),
  (⟨some 45, none, false, .lda 2 (.t 10)⟩, false, 0, 8),
  (⟨some 46, none, false, .gen (.lookup 181 (.tmp 44) (.tmp 45) false)⟩, false, 31, 1),
  (⟨some 47, none, false, .mv (.t 0)⟩, false, 0, 0),
  (⟨some 48, none, false, .nilck (.t 47)⟩, false, 64, 0),
  (⟨some 49, none, false, .fad 2 (.t 48)⟩, false, 192, 0),
  (⟨some 50, none, false, .ldc (.t 49)⟩, false, 448, 32),
  (⟨some 51, none, false, .bsl 1 1 [(.int .i64 0)] [(0, (.t 50))]⟩, false, 960, 32),
  (⟨some 52, none, false, .app 1 8 (.t 46) (.t 51)⟩, true, 2047, 1),
  (⟨some 11, none, false, .mv (.t 52)⟩, false, 4095, 0)] (some [0, 1, 5, 6, 7, 8, 10, 11, 16, 17, 18])
def ir47_r11 : IC := .reg [⟨some 53, none, false, .mv (.t 11)⟩,
  ⟨some 54, none, false, .len (.t 53)⟩,
  ⟨some 55, none, false, .fad 0 (.t 7)⟩,
  ⟨some 56, none, false, .ldc (.t 55)⟩,
  ⟨some 57, none, false, .cmp .gtr (.t 54) (.t 56)⟩] (some [0, 1, 5, 6, 7, 8, 10, 11, 16, 17, 18, 57])
def ir47_r12 : IC := .reg [⟨some 58, none, false, .mv (.t 11)⟩,
  ⟨some 59, none, false, .gen (.slice 25 (.tmp 58) (some (.const (.int .i64 1))) none none)⟩,
  ⟨some 11, none, false, .mv (.t 59)⟩] (some [0, 1, 5, 6, 7, 8, 10, 11, 16, 17, 18])
def ir47_6 : IC := .cond (.t 57) ir47_r12 .skip
def ir47_7 : IC := .seq ir47_r11 ir47_6
def ir47_r13 : IC := .draw [(⟨some 60, none, false, .mv (.t 0)⟩, false, 0, 0),
  (⟨some 61, none, false, .nilck (.t 60)⟩, false, 1, 0),
  (⟨some 62, none, false, .fad 3 (.t 61)⟩, false, 3, 0),
  (⟨some 63, none, false, .ldc (.t 62)⟩, false, 7, 1),
  (⟨some 64, none, false, .lda 2 (.t 10)⟩, false, 0, 8),
  (⟨some 65, none, false, .mv (.t 11)⟩, false, 0, 0),
  (⟨none, none, false, .gen (.mapUpdate 181 (.tmp 63) (.tmp 64) (.tmp 65))⟩, true, 63, 1)] (some [0, 1, 5, 6, 7, 8, 11, 16, 17, 18])
def ir47_r14 : IC := .draw [(⟨some 66, none, false, .mv (.t 11)⟩, false, 0, 0),
  (⟨some 67, none, false, .len (.t 66)⟩, false, 1, 1),
  (⟨some 68, none, false, .fad 0 (.t 7)⟩, false, 0, 0),
  (⟨some 69, none, false, .ldc (.t 68)⟩, false, 4, 2),
  (⟨some 70, none, false, .cmp .eql (.t 67) (.t 69)⟩, false, 15, 0),
  (⟨some 71, none, false, .mv (.t 70)⟩, false, 31, 0),
  (⟨some 72, some (71, true), false, .mv (.t 11)⟩, false, 63, 0),
  (⟨some 73, some (71, true), false, .iad 1 (.t 72) (.k (.int .i64 0))⟩, false, 127, 0),
  (⟨some 74, some (71, true), false, .ldc (.t 73)⟩, false, 255, 1),
  (⟨some 75, some (71, true), false, .mv (.t 0)⟩, false, 63, 0),
  (⟨some 76, some (71, true), false, .nilck (.t 75)⟩, false, 575, 0),
  (⟨some 77, some (71, true), false, .fad 2 (.t 76)⟩, false, 1599, 0),
  (⟨some 78, some (71, true), false, .ldc (.t 77)⟩, false, 3647, 256),
  (⟨some 79, some (71, true), false, .fad 1 (.t 7)⟩, false, 63, 0),
  (⟨some 80, some (71, true), false, .ldc (.t 79)⟩, false, 8255, 3840),
  (⟨some 81, some (71, true), false, .ar .sub (.t 78) (.t 80)⟩, false, 32319, 0),
  (⟨some 82, some (71, true), false, .cmp .gtr (.t 74) (.t 81)⟩, false, 65535, 0),
  (⟨some 83, none, false, .pick (.t 71) (.t 82) (.k (.bool false))⟩, false, 131071, 0)] (some [0, 1, 5, 6, 8, 16, 17, 18, 83])
def ir47_r15 : IC := .reg [⟨some 84, none, false, .mv (.t 5)⟩,
  ⟨some 85, none, false, .mv (.t 0)⟩,
  ⟨some 86, none, false, .nilck (.t 85)⟩,
  ⟨some 87, none, false, .fad 2 (.t 86)⟩,
  ⟨some 88, none, false, .ldc (.t 87)⟩,
  ⟨some 89, none, false, .mv (.t 6)⟩,
  ⟨some 90, none, false, .mv (.t 8)⟩,
  ⟨some 91, none, false, .bld [(.int .i64 0), (.int .i64 0), (.int .i64 0)] [(0, 1, (.t 88)), (1, 1, (.t 89)), (2, 1, (.t 90))]⟩,
  ⟨some 92, none, false, .bsl 3 1 [(.int .i64 0), (.int .i64 0), (.int .i64 0)] [(0, (.t 91))]⟩,
  ⟨some 93, none, false, .app 3 24 (.t 84) (.t 92)⟩,
  ⟨some 5, none, false, .mv (.t 93)⟩] (some [0, 1, 5, 16, 17, 18])
def ir47_8 : IC := .cond (.t 83) ir47_r15 .skip
def ir47_9 : IC := .seq ir47_r14 ir47_8
def ir47_10 : IC := .seq ir47_r13 ir47_9
def ir47_11 : IC := .seq ir47_7 ir47_10
def ir47_12 : IC := .seq ir47_r10 ir47_11
def ir47_13 : IC := .seq ir47_r9 ir47_12
def ir47_14 : IC := .seq ir47_5 ir47_13
def ir47_15 : IC := .seq ir47_3 ir47_14
def ir47_16 : IC := .seq ir47_r5 ir47_15
def ir47_17 : IC := .seq ir47_r4 ir47_16
def ir47_18 : IC := .block 1 ir47_17
def ir47_r16 : IC := .reg [⟨some 94, none, false, .ar .add (.t 18) (.k (.int .i64 1))⟩,
  ⟨some 18, none, false, .mv (.t 94)⟩] (some [0, 1, 5, 16, 17, 18])
def ir47_19 : IC := .seq ir47_18 ir47_r16
def ir47_20 : IC := .seq ir47_1 ir47_19
def ir47_21 : IC := .seq ir47_r3 ir47_20
def ir47_22 : IC := .loop ir47_21
def ir47_23 : IC := .block 0 ir47_22
def ir47_24 : IC := .seq ir47_r2 ir47_23
def ir47_r17 : IC := .reg [⟨some 95, none, false, .mv (.t 0)⟩,
  ⟨some 96, none, false, .nilck (.t 95)⟩,
  ⟨some 97, none, false, .fad 2 (.t 96)⟩,
  ⟨some 98, none, false, .ldc (.t 97)⟩,
  ⟨some 99, none, false, .ar .add (.t 98) (.k (.int .i64 1))⟩,
  ⟨some 100, none, false, .nilck (.t 95)⟩,
  ⟨some 101, none, false, .fad 2 (.t 100)⟩,
  ⟨none, none, false, .st 1 (.t 101) (.t 99)⟩] (some [5])
def ir47_r18 : IC := .reg [⟨some 102, none, false, .mv (.t 5)⟩,
  ⟨some 4, none, false, .mv (.t 102)⟩] (some [4])
def ir47_25 : IC := .seq ir47_r18 .ret
def ir47_26 : IC := .seq ir47_r17 ir47_25
def ir47_27 : IC := .seq ir47_24 ir47_26
def ir47_28 : IC := .seq ir47_r1 ir47_27
def ir47_29 : IC := .seq ir47_r0 ir47_28
def ir47 : IC := ir47_29
theorem fn47 : FnIs Try.prog 47 ir47 103 [.tmp 4] := ⟨Try.f47, Try.f47.body.getD .skip, Try.func47, by kernel_rfl, by kernel_rfl, by kernel_rfl, by kernel_rfl⟩
abbrev rl7 (n : Nat) : Value := .slice (some ⟨5, 0, none⟩) n openB
abbrev wt7 (cen : Int) (n m : Nat) : Option AObj := some (.cells ⟨[.int .i64 cen, rl7 n, .int .i64 m, .map (some 6)], 1, false⟩)
abbrev fr1 (v : Int) (lv : Value) (k kx : Nat) (sd : Int) (ky n : Nat) : Fr := [(0, pt 7), (1, .int .i64 v), (5, lv), (6, .int .i64 k), (7, pt kx), (8, .int .i64 sd), (10, pt ky), (16, rl7 n), (17, .int .i64 n), (18, .int .i64 k)]
abbrev fr2 (v : Int) (lv : Value) (k kx : Nat) (sd : Int) (ky n : Nat) (far : Value) : Fr := [(0, pt 7), (1, .int .i64 v), (5, lv), (6, .int .i64 k), (7, pt kx), (8, .int .i64 sd), (10, pt ky), (11, far), (16, rl7 n), (17, .int .i64 n), (18, .int .i64 k)]
theorem len_eN' (xs : List Int) : (rows eN xs).length = xs.length := by rw [rows_len, Nat.mul_one]
/-- The list of what is far, and one more. -/
theorem piece_B {bb : Nat} {cen v : Int} {lv : Value} {n m k kx ky cc nm off : Nat} {sd : Int} {L : List (Option AObj)} {es : List KV} {Tl : List Int} (h7 : L[7]? = some (wt7 cen n m)) (h6 : L[6]? = some (some (.map (es.map toE) cc))) (hky : L[ky]? = some (some (.cells ⟨[.int .i64 k, .int .i64 sd], 1, false⟩)))
    (hf : (findK es k sd 0).map (·.2) = if Tl = [] then none else some (.slice (some ⟨nm, off, none⟩) Tl.length (openB + off))) (hx : Tl ≠ [] → 8 ≤ nm ∧ ∃ X, L[nm]? = some (some (.cells ⟨rows eN X, 1, true⟩)) ∧ X.drop off = Tl) (hl : Tl.length ≤ 20) (hm : m ≤ 200) :
    ∃ nr L', L.length ≤ nr ∧ L'[nr]? = some (some (.cells ⟨rows eN (Tl ++ [(m : Int)]), 1, true⟩)) ∧ L.length ≤ L'.length ∧ (∀ j, j < L.length → (Tl ≠ [] → j ≠ nm) → L'[j]? = L[j]?) ∧
      ITri Try.prog 103 none bb ir47_r10 (fr1 v lv k kx sd ky n) [] (Hp 3 L) (AtF (fr2 v lv k kx sd ky n (.slice (some ⟨nr, 0, none⟩) (Tl.length + 1) openB)) (Hp 3 L')) := by
  by_cases hT : Tl = []
  · subst hT
    refine ⟨L.length + 1, L ++ [some (.cells ⟨[.int .i64 m], 1, false⟩), some (.cells ⟨[.int .i64 m], 1, true⟩)], by omega, ?_, by simp, fun j hj _ => List.getElem?_append_left hj, ?_⟩
    · rw [apd_get]
      rfl
    · have hlk : ∀ wl, aLookup Try.prog (Hq wl [] L) 181 (.map (some 6)) (kV k sd) false = some (.slice none 0 0) := fun wl => by
        have := look_K (h := Hq wl [] L) (r := 6) (es := es) (cc := cc) (get_hq rfl (by rw [h6]; rfl)) k sd
        rw [hf, if_pos rfl] at this
        exact this
      refine ITri.draw pokT ?_; simp -implicitDefEqProofs (disch := first | decide | exact of_eq_true (eq_true rfl) | omega | assumption) only [h7, hky, notNil, true_and,  ↓vcD, vcE, evs, evP, evB, intsOf, fillC, Value.cells, pt, List.append_nil, List.nil_append, List.cons_append, List.length_cons, List.length_nil, List.filter_nil, List.map_nil, ↓List.getElem?_cons_zero, ↓List.getElem?_cons_succ, List.getElem?_cons_zero, List.getElem?_cons_succ, List.set_cons_zero, List.set_cons_succ, Option.join_some, Option.join_none, Option.map_some, List.all_cons, List.all_nil, Value.oneCell', reduceIte, reduceCtorEq, Nat.reduceEqDiff, Nat.reduceAdd, Nat.reduceMul, Nat.reduceLT, Nat.reduceBEq, Nat.reduceLeDiff, Nat.reduceSub, List.size_toArray]
      refine gen_look rfl rfl (hlk _) ?_
      simp -implicitDefEqProofs (disch := first | decide | exact of_eq_true (eq_true rfl) | omega | assumption) only [apd_get, apd_get0, apd_set0, apd_set, List.length_append, List.append_assoc, Nat.add_assoc, h7, low_get h7, notNil, true_and,  ↓vcD, vcE, evs, evP, evB, intsOf, fillC, Value.cells, pt, List.append_nil, List.nil_append, List.cons_append, List.length_cons, List.length_nil, List.filter_nil, List.map_nil, ↓List.getElem?_cons_zero, ↓List.getElem?_cons_succ, List.getElem?_cons_zero, List.getElem?_cons_succ, List.set_cons_zero, List.set_cons_succ, Option.join_some, Option.join_none, Option.map_some, List.all_cons, List.all_nil, Value.oneCell', reduceIte, reduceCtorEq, Nat.reduceEqDiff, Nat.reduceAdd, Nat.reduceMul, Nat.reduceLT, Nat.reduceBEq, Nat.reduceLeDiff, Nat.reduceSub, List.size_toArray]
      exact AtF.mk ⟨rfl, rfl, rfl, rfl, rfl, rfl, rfl, rfl, rfl, rfl, rfl, trivial⟩
  · obtain ⟨h8, X, hX, hXo⟩ := hx hT
    have hnl := get_lt hX
    have hlk : ∀ wl, aLookup Try.prog (Hq wl [] L) 181 (.map (some 6)) (kV k sd) false = some (.slice (some ⟨nm, off, none⟩) Tl.length (openB + off)) := fun wl => by
      have := look_K (h := Hq wl [] L) (r := 6) (es := es) (cc := cc) (get_hq rfl (by rw [h6]; rfl)) k sd
      rw [hf, if_neg hT] at this
      exact this
    have hTl : Tl.length ≠ 0 := fun e => hT (List.eq_nil_of_length_eq_zero e)
    have hro : (rows eN X).drop off = rows eN Tl := by rw [← Nat.mul_one off, rows_drop, hXo]
    refine ⟨L.length + 1, (L ++ [some (AObj.cells ⟨[.int .i64 m], 1, false⟩), some (AObj.cells ⟨rows eN (Tl ++ [(m : Int)]), 1, true⟩)]).set nm none, by omega, ?_, by simp, fun j hj hne => ?_, ?_⟩
    · rw [List.getElem?_set_ne (by omega), apd_get]
      rfl
    · rw [List.getElem?_set_ne (fun e => hne hT e.symm)]
      exact List.getElem?_append_left hj
    · refine ITri.draw pokT ?_; simp -implicitDefEqProofs (disch := first | decide | exact of_eq_true (eq_true rfl) | omega | assumption) only [h7, hky, notNil, true_and,  ↓vcD, vcE, evs, evP, evB, intsOf, fillC, Value.cells, pt, List.append_nil, List.nil_append, List.cons_append, List.length_cons, List.length_nil, List.filter_nil, List.map_nil, ↓List.getElem?_cons_zero, ↓List.getElem?_cons_succ, List.getElem?_cons_zero, List.getElem?_cons_succ, List.set_cons_zero, List.set_cons_succ, Option.join_some, Option.join_none, Option.map_some, List.all_cons, List.all_nil, Value.oneCell', reduceIte, reduceCtorEq, Nat.reduceEqDiff, Nat.reduceAdd, Nat.reduceMul, Nat.reduceLT, Nat.reduceBEq, Nat.reduceLeDiff, Nat.reduceSub, List.size_toArray]
      refine gen_look rfl rfl (hlk _) ?_
      simp -implicitDefEqProofs (disch := first | decide | exact of_eq_true (eq_true rfl) | omega | assumption) only [apd_get, apd_get0, apd_set0, apd_set, List.length_append, List.append_assoc, Nat.add_assoc, h7, low_get h7, notNil, true_and,  ↓vcD, vcE, evs, evP, evB, intsOf, fillC, Value.cells, pt, List.append_nil, List.nil_append, List.cons_append, List.length_cons, List.length_nil, List.filter_nil, List.map_nil, ↓List.getElem?_cons_zero, ↓List.getElem?_cons_succ, List.getElem?_cons_zero, List.getElem?_cons_succ, List.set_cons_zero, List.set_cons_succ, Option.join_some, Option.join_none, Option.map_some, List.all_cons, List.all_nil, Value.oneCell', reduceIte, reduceCtorEq, Nat.reduceEqDiff, Nat.reduceAdd, Nat.reduceMul, Nat.reduceLT, Nat.reduceBEq, Nat.reduceLeDiff, Nat.reduceSub, List.size_toArray]
      rw [appK_oo (old := rows eN Tl) (all := rows eN X) rfl (by rw [low_get hX]; rfl) hro (by rw [len_eN']) hTl (by decide)]
      simp -implicitDefEqProofs (disch := first | decide | exact of_eq_true (eq_true rfl) | omega | assumption) only [apd_get, apd_get0, apd_set0, apd_set, List.length_append, List.append_assoc, Nat.add_assoc, h7, low_get h7, notNil, true_and,  ↓vcD, vcE, evs, evP, evB, intsOf, fillC, Value.cells, pt, List.append_nil, List.nil_append, List.cons_append, List.length_cons, List.length_nil, List.filter_nil, List.map_nil, ↓List.getElem?_cons_zero, ↓List.getElem?_cons_succ, List.getElem?_cons_zero, List.getElem?_cons_succ, List.set_cons_zero, List.set_cons_succ, Option.join_some, Option.join_none, Option.map_some, List.all_cons, List.all_nil, Value.oneCell', reduceIte, reduceCtorEq, Nat.reduceEqDiff, Nat.reduceAdd, Nat.reduceMul, Nat.reduceLT, Nat.reduceBEq, Nat.reduceLeDiff, Nat.reduceSub, List.size_toArray]
      have hsn : rows eN Tl ++ [.int .i64 (m : Int)] = rows eN (Tl ++ [(m : Int)]) := by rw [rows_append, rows_one]
      rw [hsn]
      exact AtF.mk ⟨rfl, rfl, rfl, rfl, rfl, rfl, rfl, rfl, rfl, rfl, rfl, trivial⟩
/-- No more than the rule asks for. -/
theorem piece_C {bb : Nat} {v : Int} {lv : Value} {n k kx ky nr : Nat} {sd of last far : Int} {L : List (Option AObj)} {Tm : List Int} (hkx : L[kx]? = some (some (.cells ⟨[.int .i64 of, .int .i64 last, .int .i64 far], 1, false⟩))) (h1 : 1 ≤ of) :
    ∃ o, (if of < (Tm.length : Int) then Tm.drop 1 else Tm) = Tm.drop o ∧
      ITri Try.prog 103 none bb ir47_7 (fr2 v lv k kx sd ky n (.slice (some ⟨nr, 0, none⟩) Tm.length openB)) [] (Hp 3 L) (AtF (fr2 v lv k kx sd ky n (.slice (some ⟨nr, o, none⟩) (Tm.drop o).length (openB + o))) (Hp 3 L)) := by
  by_cases h : of < (Tm.length : Int)
  · refine ⟨1, by rw [if_pos h], ?_⟩
    refine ITri.seq ?_
    refine ITri.reg pokT ?_; simp -implicitDefEqProofs (disch := first | decide | exact of_eq_true (eq_true rfl) | omega | assumption) only [hkx, h, decide_true,  ↓vcD, vcE, evs, evP, evB, intsOf, fillC, Value.cells, pt, List.append_nil, List.nil_append, List.cons_append, List.length_cons, List.length_nil, List.filter_nil, List.map_nil, ↓List.getElem?_cons_zero, ↓List.getElem?_cons_succ, List.getElem?_cons_zero, List.getElem?_cons_succ, List.set_cons_zero, List.set_cons_succ, Option.join_some, Option.join_none, Option.map_some, List.all_cons, List.all_nil, Value.oneCell', reduceIte, reduceCtorEq, Nat.reduceEqDiff, Nat.reduceAdd, Nat.reduceMul, Nat.reduceLT, Nat.reduceBEq, Nat.reduceLeDiff, Nat.reduceSub, List.size_toArray]
    refine ITri.cond (v := true) rfl (fun _ => ?_) (fun h => by cases h)
    refine ITri.reg pokT ?_; simp -implicitDefEqProofs (disch := first | decide | exact of_eq_true (eq_true rfl) | omega | assumption) only [ ↓vcD, vcE, evs, evP, evB, intsOf, fillC, Value.cells, pt, List.append_nil, List.nil_append, List.cons_append, List.length_cons, List.length_nil, List.filter_nil, List.map_nil, ↓List.getElem?_cons_zero, ↓List.getElem?_cons_succ, List.getElem?_cons_zero, List.getElem?_cons_succ, List.set_cons_zero, List.set_cons_succ, Option.join_some, Option.join_none, Option.map_some, List.all_cons, List.all_nil, Value.oneCell', reduceIte, reduceCtorEq, Nat.reduceEqDiff, Nat.reduceAdd, Nat.reduceMul, Nat.reduceLT, Nat.reduceBEq, Nat.reduceLeDiff, Nat.reduceSub, List.size_toArray]
    refine gen_from1 (d := 0) u_slI i_I sz_I rfl (by omega) ?_
    try simp -implicitDefEqProofs (disch := first | decide | exact of_eq_true (eq_true rfl) | omega | assumption) only [ ↓vcD, vcE, evs, evP, evB, intsOf, fillC, Value.cells, pt, List.append_nil, List.nil_append, List.cons_append, List.length_cons, List.length_nil, List.filter_nil, List.map_nil, ↓List.getElem?_cons_zero, ↓List.getElem?_cons_succ, List.getElem?_cons_zero, List.getElem?_cons_succ, List.set_cons_zero, List.set_cons_succ, Option.join_some, Option.join_none, Option.map_some, List.all_cons, List.all_nil, Value.oneCell', reduceIte, reduceCtorEq, Nat.reduceEqDiff, Nat.reduceAdd, Nat.reduceMul, Nat.reduceLT, Nat.reduceBEq, Nat.reduceLeDiff, Nat.reduceSub, List.size_toArray]
    have e : (Tm.drop 1).length = Tm.length - 1 := List.length_drop
    rw [e]
    exact AtF.mk ⟨rfl, rfl, rfl, rfl, rfl, rfl, rfl, rfl, rfl, rfl, rfl, trivial⟩
  · refine ⟨0, by rw [if_neg h]; rfl, ?_⟩
    refine ITri.seq ?_
    refine ITri.reg pokT ?_; simp -implicitDefEqProofs (disch := first | decide | exact of_eq_true (eq_true rfl) | omega | assumption) only [hkx, h, decide_false,  ↓vcD, vcE, evs, evP, evB, intsOf, fillC, Value.cells, pt, List.append_nil, List.nil_append, List.cons_append, List.length_cons, List.length_nil, List.filter_nil, List.map_nil, ↓List.getElem?_cons_zero, ↓List.getElem?_cons_succ, List.getElem?_cons_zero, List.getElem?_cons_succ, List.set_cons_zero, List.set_cons_succ, Option.join_some, Option.join_none, Option.map_some, List.all_cons, List.all_nil, Value.oneCell', reduceIte, reduceCtorEq, Nat.reduceEqDiff, Nat.reduceAdd, Nat.reduceMul, Nat.reduceLT, Nat.reduceBEq, Nat.reduceLeDiff, Nat.reduceSub, List.size_toArray]
    refine ITri.cond (v := false) rfl (fun h => by cases h) (fun _ => ?_)
    refine ITri.skip ?_
    exact AtF.mk ⟨rfl, rfl, rfl, rfl, rfl, rfl, rfl, rfl, rfl, rfl, rfl, trivial⟩
abbrev fr3 (v : Int) (lv : Value) (k kx : Nat) (sd : Int) (n : Nat) (far : Value) : Fr := [(0, pt 7), (1, .int .i64 v), (5, lv), (6, .int .i64 k), (7, pt kx), (8, .int .i64 sd), (11, far), (16, rl7 n), (17, .int .i64 n), (18, .int .i64 k)]
theorem piece_D {bb : Nat} {cen v : Int} {lv far : Value} {n m k kx ky cc : Nat} {sd : Int} {L : List (Option AObj)} {es : List KV} (h7 : L[7]? = some (wt7 cen n m)) (h6 : L[6]? = some (some (.map (es.map toE) cc))) (hky : L[ky]? = some (some (.cells ⟨[.int .i64 k, .int .i64 sd], 1, false⟩))) :
    ∃ es' cc', (∀ a' b', (findK es' a' b' 0).map (·.2) = if a' = (k : Int) ∧ b' = sd then some far else (findK es a' b' 0).map (·.2)) ∧
      ITri Try.prog 103 none bb ir47_r13 (fr2 v lv k kx sd ky n far) [] (Hp 3 L) (AtF (fr3 v lv k kx sd n far) (Hp 3 (L.set 6 (some (.map (es'.map toE) cc'))))) := by
  obtain ⟨es', cc', hu, hes⟩ := upd_K (h := Hp 3 L) (r := 6) (es := es) (cc := cc) (get_hq rfl (by rw [h6]; rfl)) (by show 3 ≤ 6; decide) k sd far
  have h6l := get_lt h6
  rw [Hq_put 6 _ h6l] at hu
  refine ⟨es', cc', hes, ?_⟩
  refine ITri.draw pokT ?_; simp -implicitDefEqProofs (disch := first | decide | exact of_eq_true (eq_true rfl) | omega | assumption) only [h7, hky, notNil, true_and,  ↓vcD, vcE, evs, evP, evB, intsOf, fillC, Value.cells, pt, List.append_nil, List.nil_append, List.cons_append, List.length_cons, List.length_nil, List.filter_nil, List.map_nil, ↓List.getElem?_cons_zero, ↓List.getElem?_cons_succ, List.getElem?_cons_zero, List.getElem?_cons_succ, List.set_cons_zero, List.set_cons_succ, Option.join_some, Option.join_none, Option.map_some, List.all_cons, List.all_nil, Value.oneCell', reduceIte, reduceCtorEq, Nat.reduceEqDiff, Nat.reduceAdd, Nat.reduceMul, Nat.reduceLT, Nat.reduceBEq, Nat.reduceLeDiff, Nat.reduceSub, List.size_toArray]
  refine gen_mapU rfl rfl rfl hu ?_
  exact AtF.mk ⟨rfl, rfl, rfl, rfl, rfl, rfl, rfl, rfl, rfl, rfl, trivial⟩
abbrev frT (v : Int) (lv : Value) (k n : Nat) : Fr := [(0, pt 7), (1, .int .i64 v), (5, lv), (16, rl7 n), (17, .int .i64 n), (18, .int .i64 k)]
/-- A list of alarms of the call's own: nil, or a row from a name on. -/
def OutD (N0 : Nat) (lv : Value) (L : List (Option AObj)) (out : List Al) (kl : Nat) : Prop :=
  (lv = .slice none 0 0 ∧ out = []) ∨ (N0 ≤ kl ∧ lv = .slice (some ⟨kl, 0, none⟩) out.length openB ∧ L[kl]? = some (some (.cells ⟨rows eU out, 3, true⟩)))
/-- Whether the rule speaks. -/
theorem piece_E {bb : Nat} {cen v : Int} {lv : Value} {n m k kx nr o N0 kl : Nat} {sd of last far : Int} {L : List (Option AObj)} {X : List Int} {out : List Al} (h7 : L[7]? = some (wt7 cen n m)) (hkx : L[kx]? = some (some (.cells ⟨[.int .i64 of, .int .i64 last, .int .i64 far], 1, false⟩))) (hnr : L[nr]? = some (some (.cells ⟨rows eN X, 1, true⟩))) (hT : X.drop o ≠ []) (hm : m ≤ 200) (hla : 1 ≤ last ∧ last ≤ 20) (hO : OutD N0 lv L out kl) (hN0 : 3 ≤ N0) (hNL : N0 ≤ L.length) (hol : out.length ≤ 100) :
    ∃ lv' kl' L', L.length ≤ L'.length ∧ (∀ j, j < L.length → (lv ≠ .slice none 0 0 → j ≠ kl) → L'[j]? = L[j]?) ∧ ((kl' = kl ∧ lv' = lv) ∨ L.length ≤ kl') ∧ OutD N0 lv' L' (out ++ if ((X.drop o).length : Int) = of ∧ (m : Int) - last < nth (X.drop o) 0 then [((m : Int), (k : Int), sd)] else []) kl' ∧
      ITri Try.prog 103 none bb ir47_9 (fr3 v lv k kx sd n (.slice (some ⟨nr, o, none⟩) (X.drop o).length (openB + o))) [] (Hp 3 L) (AtF (frT v lv' k n) (Hp 3 L')) := by
  have hTl : (X.drop o).length ≠ 0 := fun e => hT (List.eq_nil_of_length_eq_zero e)
  have hxo : o < X.length := by rw [List.length_drop] at hTl; omega
  have hg : (rows eN X)[o]? = some (.int .i64 (nth (X.drop o) 0)) := by
    rw [getN hxo]
    congr 2
    unfold nth
    rw [List.getD_eq_getElem?_getD, List.getD_eq_getElem?_getD, List.getElem?_drop, Nat.add_zero]
  have hg0 : (rows eN X)[o + Int.toNat 0]? = some (.int .i64 (nth (X.drop o) 0)) := hg
  obtain ⟨t0, ht0⟩ : ∃ t0, nth (X.drop o) 0 = t0 := ⟨_, rfl⟩
  obtain ⟨tn, htn⟩ : ∃ tn, (X.drop o).length = tn := ⟨_, rfl⟩
  rw [ht0] at hg hg0 ⊢
  rw [htn] at hTl ⊢
  by_cases hs : (tn : Int) = of ∧ (m : Int) - last < t0
  · rw [if_pos hs]
    obtain ⟨hs1, hs2⟩ := hs
    rcases hO with ⟨rfl, rfl⟩ | ⟨hk, rfl, hLk⟩
    · refine ⟨.slice (some ⟨L.length + 1, 0, none⟩) 1 openB, L.length + 1, L ++ [some (AObj.cells ⟨[.int .i64 m, .int .i64 k, .int .i64 sd], 3, false⟩), some (AObj.cells ⟨[.int .i64 m, .int .i64 k, .int .i64 sd], 3, true⟩)], by simp, fun j hj _ => List.getElem?_append_left hj, .inr (by omega), .inr ⟨by omega, rfl, by rw [apd_get]; rfl⟩, ?_⟩
      refine ITri.seq ?_
      refine ITri.draw pokT ?_; simp -implicitDefEqProofs (disch := first | decide | exact of_eq_true (eq_true rfl) | omega | assumption) only [h7, hkx, hnr, hg, hg0, hs1, hs2, decide_true, notNil, true_and, eq_self,  ↓vcD, vcE, evs, evP, evB, intsOf, fillC, Value.cells, pt, List.append_nil, List.nil_append, List.cons_append, List.length_cons, List.length_nil, List.filter_nil, List.map_nil, ↓List.getElem?_cons_zero, ↓List.getElem?_cons_succ, List.getElem?_cons_zero, List.getElem?_cons_succ, List.set_cons_zero, List.set_cons_succ, Option.join_some, Option.join_none, Option.map_some, List.all_cons, List.all_nil, Value.oneCell', reduceIte, reduceCtorEq, Nat.reduceEqDiff, Nat.reduceAdd, Nat.reduceMul, Nat.reduceLT, Nat.reduceBEq, Nat.reduceLeDiff, Nat.reduceSub, List.size_toArray]
      refine ITri.cond (v := true) rfl (fun _ => ?_) (fun h => by cases h)
      refine ITri.reg pokT ?_; simp -implicitDefEqProofs (disch := first | decide | exact of_eq_true (eq_true rfl) | omega | assumption) only [h7, notNil, true_and, apd_get, apd_get0, apd_set0, apd_set, List.length_append, List.append_assoc, Nat.add_assoc, low_get h7,  ↓vcD, vcE, evs, evP, evB, intsOf, fillC, Value.cells, pt, List.append_nil, List.nil_append, List.cons_append, List.length_cons, List.length_nil, List.filter_nil, List.map_nil, ↓List.getElem?_cons_zero, ↓List.getElem?_cons_succ, List.getElem?_cons_zero, List.getElem?_cons_succ, List.set_cons_zero, List.set_cons_succ, Option.join_some, Option.join_none, Option.map_some, List.all_cons, List.all_nil, Value.oneCell', reduceIte, reduceCtorEq, Nat.reduceEqDiff, Nat.reduceAdd, Nat.reduceMul, Nat.reduceLT, Nat.reduceBEq, Nat.reduceLeDiff, Nat.reduceSub, List.size_toArray]
      exact AtF.mk ⟨rfl, rfl, rfl, rfl, rfl, rfl, trivial⟩
    · have hkl := get_lt hLk
      have hlr : (rows eU out).length = out.length * 3 := by rw [rows_len]
      refine ⟨.slice (some ⟨L.length + 1, 0, none⟩) (out.length + 1) openB, L.length + 1, (L ++ [some (AObj.cells ⟨[.int .i64 m, .int .i64 k, .int .i64 sd], 3, false⟩), some (AObj.cells ⟨rows eU (out ++ [((m : Int), (k : Int), sd)]), 3, true⟩)]).set kl none, by simp, fun j hj hne => ?_, .inr (by omega), .inr ⟨by omega, by rw [List.length_append]; rfl, by rw [List.getElem?_set_ne (by omega), apd_get]; rfl⟩, ?_⟩
      · rw [List.getElem?_set_ne (fun e => hne (by simp) e.symm)]
        exact List.getElem?_append_left hj
      refine ITri.seq ?_
      refine ITri.draw pokT ?_; simp -implicitDefEqProofs (disch := first | decide | exact of_eq_true (eq_true rfl) | omega | assumption) only [h7, hkx, hnr, hg, hg0, hs1, hs2, decide_true, notNil, true_and, eq_self,  ↓vcD, vcE, evs, evP, evB, intsOf, fillC, Value.cells, pt, List.append_nil, List.nil_append, List.cons_append, List.length_cons, List.length_nil, List.filter_nil, List.map_nil, ↓List.getElem?_cons_zero, ↓List.getElem?_cons_succ, List.getElem?_cons_zero, List.getElem?_cons_succ, List.set_cons_zero, List.set_cons_succ, Option.join_some, Option.join_none, Option.map_some, List.all_cons, List.all_nil, Value.oneCell', reduceIte, reduceCtorEq, Nat.reduceEqDiff, Nat.reduceAdd, Nat.reduceMul, Nat.reduceLT, Nat.reduceBEq, Nat.reduceLeDiff, Nat.reduceSub, List.size_toArray]
      refine ITri.cond (v := true) rfl (fun _ => ?_) (fun h => by cases h)
      have hsn : rows eU out ++ [.int .i64 (m : Int), .int .i64 k, .int .i64 sd] = rows eU (out ++ [((m : Int), (k : Int), sd)]) := by rw [rows_append, rows_one]; rfl
      refine ITri.reg pokT ?_; simp -implicitDefEqProofs (disch := first | decide | exact of_eq_true (eq_true rfl) | omega | assumption) only [h7, notNil, true_and, apd_get, apd_get0, apd_set0, apd_set, List.length_append, List.append_assoc, Nat.add_assoc, low_get h7, low_get hLk, hlr,  ↓vcD, vcE, evs, evP, evB, intsOf, fillC, Value.cells, pt, List.append_nil, List.nil_append, List.cons_append, List.length_cons, List.length_nil, List.filter_nil, List.map_nil, ↓List.getElem?_cons_zero, ↓List.getElem?_cons_succ, List.getElem?_cons_zero, List.getElem?_cons_succ, List.set_cons_zero, List.set_cons_succ, Option.join_some, Option.join_none, Option.map_some, List.all_cons, List.all_nil, Value.oneCell', reduceIte, reduceCtorEq, Nat.reduceEqDiff, Nat.reduceAdd, Nat.reduceMul, Nat.reduceLT, Nat.reduceBEq, Nat.reduceLeDiff, Nat.reduceSub, List.size_toArray]
      rw [appK_o (old := rows eU out) rfl (by rw [low_get hLk]; rfl) hlr (by decide)]
      simp -implicitDefEqProofs (disch := first | decide | exact of_eq_true (eq_true rfl) | omega | assumption) only [apd_get, apd_get0, apd_set0, apd_set, List.length_append, List.append_assoc, Nat.add_assoc,  ↓vcD, vcE, evs, evP, evB, intsOf, fillC, Value.cells, pt, List.append_nil, List.nil_append, List.cons_append, List.length_cons, List.length_nil, List.filter_nil, List.map_nil, ↓List.getElem?_cons_zero, ↓List.getElem?_cons_succ, List.getElem?_cons_zero, List.getElem?_cons_succ, List.set_cons_zero, List.set_cons_succ, Option.join_some, Option.join_none, Option.map_some, List.all_cons, List.all_nil, Value.oneCell', reduceIte, reduceCtorEq, Nat.reduceEqDiff, Nat.reduceAdd, Nat.reduceMul, Nat.reduceLT, Nat.reduceBEq, Nat.reduceLeDiff, Nat.reduceSub, List.size_toArray]
      rw [hsn]
      exact AtF.mk ⟨rfl, rfl, rfl, rfl, rfl, rfl, trivial⟩
  · rw [if_neg hs, List.append_nil]
    refine ⟨lv, kl, L, Nat.le_refl _, fun _ _ _ => rfl, .inl ⟨rfl, rfl⟩, hO, ?_⟩
    refine ITri.seq ?_
    by_cases hs1 : (tn : Int) = of
    · have hs2 : ¬ (m : Int) - last < t0 := fun e => hs ⟨hs1, e⟩
      refine ITri.draw pokT ?_; simp -implicitDefEqProofs (disch := first | decide | exact of_eq_true (eq_true rfl) | omega | assumption) only [h7, hkx, hnr, hg, hg0, hs1, hs2, decide_true, decide_false, notNil, true_and, eq_self,  ↓vcD, vcE, evs, evP, evB, intsOf, fillC, Value.cells, pt, List.append_nil, List.nil_append, List.cons_append, List.length_cons, List.length_nil, List.filter_nil, List.map_nil, ↓List.getElem?_cons_zero, ↓List.getElem?_cons_succ, List.getElem?_cons_zero, List.getElem?_cons_succ, List.set_cons_zero, List.set_cons_succ, Option.join_some, Option.join_none, Option.map_some, List.all_cons, List.all_nil, Value.oneCell', reduceIte, reduceCtorEq, Nat.reduceEqDiff, Nat.reduceAdd, Nat.reduceMul, Nat.reduceLT, Nat.reduceBEq, Nat.reduceLeDiff, Nat.reduceSub, List.size_toArray]
      refine ITri.cond (v := false) rfl (fun h => by cases h) (fun _ => ?_)
      refine ITri.skip ?_
      exact AtF.mk ⟨rfl, rfl, rfl, rfl, rfl, rfl, trivial⟩
    · refine ITri.draw pokT ?_; simp -implicitDefEqProofs (disch := first | decide | exact of_eq_true (eq_true rfl) | omega | assumption) only [h7, hkx, hnr, hg, hg0, hs1, decide_true, decide_false, notNil, true_and, eq_self,  ↓vcD, vcE, evs, evP, evB, intsOf, fillC, Value.cells, pt, List.append_nil, List.nil_append, List.cons_append, List.length_cons, List.length_nil, List.filter_nil, List.map_nil, ↓List.getElem?_cons_zero, ↓List.getElem?_cons_succ, List.getElem?_cons_zero, List.getElem?_cons_succ, List.set_cons_zero, List.set_cons_succ, Option.join_some, Option.join_none, Option.map_some, List.all_cons, List.all_nil, Value.oneCell', reduceIte, reduceCtorEq, Nat.reduceEqDiff, Nat.reduceAdd, Nat.reduceMul, Nat.reduceLT, Nat.reduceBEq, Nat.reduceLeDiff, Nat.reduceSub, List.size_toArray]
      refine ITri.cond (v := false) rfl (fun h => by cases h) (fun _ => ?_)
      refine ITri.skip ?_
      exact AtF.mk ⟨rfl, rfl, rfl, rfl, rfl, rfl, trivial⟩
end Go.Proofs.Ytfmcdbcoljpomaa
