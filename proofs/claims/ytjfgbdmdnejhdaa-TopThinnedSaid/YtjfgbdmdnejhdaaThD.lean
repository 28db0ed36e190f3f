/-
  Chapter 9 at the top: lists of steps; a copy of ranges; by names.
-/
import Derived.Test.YtjfgbdmdnejhdaaThC
import Derived.Test.YtjfgbdmdnejhdaaApp
import Derived.Lib.SliceRun
set_option linter.unusedSimpArgs false
set_option linter.unusedVariables false
namespace Go.Proofs.Ytjfgbdmdnejhdaa
open Go.RowKit Go.Vm
section
theorem encII : Enc eII 2 := fun x => ⟨rfl, fun u hu => by simp [eII] at hu; rcases hu with rfl | rfl <;> rfl⟩
theorem elII : Elem Try.prog 34 23 2 16 := Elem.of (by kernel_rfl) (z := .agg #[.int .i64 0, .int .i64 0]) (by kernel_rfl) rfl (by decide)
theorem un_slII : Try.prog.underlying 34 = some (.slice 23) := by kernel_rfl
set_option maxHeartbeats 400000 in
theorem cloneII_any (A : Option Addr) (n cap B : Nat) (l : List (Int × Int)) (w : World) (h : Sl eII 2 w B A n l) (hB : B ≤ w.heap.size) (hn : n ≤ 1000000) :
    Calls Try.prog 30 #[.slice A n cap] w fun en w' => ∃ A n cap, en = .returned (.slice A n cap) ∧ Own eII 2 23 w.heap.size w' A n cap l ∧ Below w.heap.size w w' := by
  have hm : (0 : Nat) + n ≤ maxLen := by unfold maxLen; omega
  have q22 : ∀ (w : World) (a : Option Addr) (n c n' c' : Nat), (Go.binOp .eql 34 (.slice a n c) (.slice none n' c')).run Try.prog w = .ok (.bool a.isNone) w := fun w a n c n' c' => Lib.run_eql_slice_nil w _ _ a n c n' c' un_slII
  cases A with
  | none =>
    have hl : l = [] := by
      rcases l with _ | ⟨x, l⟩
      · rfl
      · obtain ⟨b, off, e, _⟩ := h.2 (by simp)
        cases e
    subst hl
    go_enter Try.func30, Try.ntmps30
    go_wp2
    go_ret
    exact ⟨none, 0, 0, rfl, ⟨rfl, World.ownsRow_nil w _ _ _⟩, Below.refl _ _⟩
  | some a =>
    go_enter Try.func30, Try.ntmps30
    go_wp2_with (at_builtin; refine wpList_append_any (base := w.heap.size) encII elII rfl _ _ rfl (some ⟨w.heap.size, 0, none⟩) 0 0 [] rfl (Own.lit encII (Nat.le_refl _) (Nat.zero_le _) rfl) B (some a) n cap l rfl (h.below ((Below.refl _ _).alloc hB _)) hm (by omega) (by simp) ?_; intro A' cap' w1 hown hgrow hat)
    go_ret
    refine ⟨A', n, cap', rfl, by simpa using hown, ((Below.refl _ _).alloc (Nat.le_refl _) _).grown hgrow (by simp) (fun k e => by simp at e; omega)⟩
theorem clone_f {n cp k sz : Nat} {op : Bool} {rs : List (Int × Int)} (hn : rs.length = n) (hb : n ≤ 1000000) {h : AH} (hg : h.get k = some (.cells ⟨rows eII rs, sz, op⟩)) :
    Fc Try.prog 30 [.slice (some ⟨k, 0, none⟩) n cp] h (.slice (some ⟨h.next, 0, none⟩) n openB) (h.new (.cells ⟨rows eII rs, 2, true⟩)) := by
  refine Fc.ofOwn (mk := id) (e := 23) (sz := 2) (xs := rows eII rs) (rows_no (f := eII) rs) (fun _ _ _ => rfl) (fun _ _ _ h => h) ⟨_, _, Try.func30, rfl⟩ fun w0 φ κ w R ha => ?_
  obtain ⟨A, cap, e1, hs⟩ := Rel.sl (enc := eII) (xs := rs) R (k := k) (n := n) (cp := cp) hg (by decide) (ha _ (by simp)) hn
  simp only [List.map_cons, List.map_nil, e1]
  refine (cloneII_any A n cap w.heap.size rs w hs (Nat.le_refl _) hb).mono ?_
  rintro en w' ⟨A', n', cap', rfl, ho, hbl⟩
  have hn' := ho.1
  obtain rfl : n' = n := by omega
  exact ⟨A', cap', rfl, ho.2, hbl⟩
end
set_option maxRecDepth 100000
/-- A step that leaves the sites alike. -/
structure Rm where
  (k lo hi : Int)
instance : Inhabited Rm := ⟨⟨0, 0, 0⟩⟩
def eR (r : Rm) : List Value := [.int .i64 r.k, .int .i64 r.lo, .int .i64 r.hi, .int .i64 0]
instance flR : FlatE eR 4 := ⟨fun _ => rfl, fun _ => rfl, fun _ => rfl⟩
theorem takeR {xs : List Rm} {i : Nat} (hi : i < xs.length) : takeC (rows eR xs) (i * 4) 4 = some [.int .i64 (nth xs i).k, .int .i64 (nth xs i).lo, .int .i64 (nth xs i).hi, .int .i64 0] := rows_takeC (f := eR) hi
abbrev rmV (r : Rm) : Value := .agg #[.int .i64 r.k, .int .i64 r.lo, .int .i64 r.hi, .int .i64 0]
/- slices.IndexFunc[[]boule/api.Removal,boule/api.Removal] · slots 19 · names 0:s 1:f 2:s 3:f 5:i · results [4] -/
def ir51_r0 : IC := .reg [⟨some 4, none, false, .mv (.k (.int .i64 0))⟩] (some [0, 1])
def ir51_r1 : IC := .reg [⟨some 6, none, false, .mv (.t 0)⟩,
  ⟨some 7, none, false, .len (.t 6)⟩,
  ⟨some 8, none, false, .mv (.k (.int .i64 0))⟩] (some [0, 1, 7, 8])
def ir51_r2 : IC := .reg [⟨some 9, none, false, .cmp .lss (.t 8) (.t 7)⟩] (some [0, 1, 7, 8, 9])
def ir51_1 : IC := .cond (.t 9) .skip (.exit 0)
def ir51_r3 : IC := .reg [⟨some 10, none, false, .mv (.t 8)⟩,
  ⟨some 5, none, false, .mv (.t 10)⟩] (some [0, 1, 5, 7, 8])
def ir51_r4 : IC := .reg [⟨some 11, none, false, .mv (.t 1)⟩,
  ⟨some 12, none, false, .mv (.t 0)⟩,
  ⟨some 13, none, false, .mv (.t 5)⟩,
  ⟨some 14, none, false, .iad 4 (.t 12) (.t 13)⟩,
  ⟨some 15, none, false, .lda 4 (.t 14)⟩,
  ⟨some 16, none, false, .call (.t 11) [(.t 15)]⟩] (some [0, 1, 5, 7, 8, 16])
def ir51_r5 : IC := .reg [⟨some 17, none, false, .mv (.t 5)⟩,
  ⟨some 4, none, false, .mv (.t 17)⟩] (some [4])
def ir51_2 : IC := .seq ir51_r5 .ret
def ir51_3 : IC := .cond (.t 16) ir51_2 .skip
def ir51_4 : IC := .seq ir51_r4 ir51_3
def ir51_5 : IC := .seq ir51_r3 ir51_4
def ir51_6 : IC := .block 1 ir51_5
def ir51_r6 : IC := .reg [⟨some 18, none, false, .ar .add (.t 8) (.k (.int .i64 1))⟩,
  ⟨some 8, none, false, .mv (.t 18)⟩] (some [0, 1, 7, 8])
def ir51_7 : IC := .seq ir51_6 ir51_r6
def ir51_8 : IC := .seq ir51_1 ir51_7
def ir51_9 : IC := .seq ir51_r2 ir51_8
def ir51_10 : IC := .loop ir51_9
def ir51_11 : IC := .block 0 ir51_10
def ir51_12 : IC := .seq ir51_r1 ir51_11
def ir51_r7 : IC := .reg [⟨some 4, none, false, .mv (.k (.int .i64 (-1)))⟩] (some [4])
def ir51_13 : IC := .seq ir51_r7 .ret
def ir51_14 : IC := .seq ir51_12 ir51_13
def ir51_15 : IC := .seq ir51_r0 ir51_14
def ir51 : IC := ir51_15
theorem fn51 : FnIs Try.prog 51 ir51 19 [.tmp 4] := ⟨Try.f51, Try.f51.body.getD .skip, Try.func51, by kernel_rfl, by kernel_rfl, by kernel_rfl, by kernel_rfl⟩
/- slices.ContainsFunc[[]boule/api.Removal,boule/api.Removal] · slots 9 · names 0:s 1:f 2:s 3:f · results [4] -/
def ir25_r0 : IC := .reg [⟨some 4, none, false, .mv (.k (.bool false))⟩] (some [0, 1])
def ir25_r1 : IC := .reg [⟨some 5, none, false, .mv (.t 0)⟩,
  ⟨some 6, none, false, .mv (.t 1)⟩,
  ⟨some 7, none, false, .call (.f 51) [(.t 5), (.t 6)]⟩,
  ⟨some 8, none, false, .cmp .geq (.t 7) (.k (.int .i64 0))⟩,
  ⟨some 4, none, false, .mv (.t 8)⟩] (some [4])
def ir25_1 : IC := .seq ir25_r1 .ret
def ir25_2 : IC := .seq ir25_r0 ir25_1
def ir25 : IC := ir25_2
theorem fn25 : FnIs Try.prog 25 ir25 9 [.tmp 4] := ⟨Try.f25, Try.f25.body.getD .skip, Try.func25, by kernel_rfl, by kernel_rfl, by kernel_rfl, by kernel_rfl⟩
/- boule/finish.Remove$1 · slots 29 · names 0:r 1:r · results [2] -/
def ir26_r0 : IC := .reg [⟨some 1, none, false, .box (.t 0)⟩,
  ⟨some 2, none, false, .mv (.k (.bool false))⟩] (some [1])
def ir26_r1 : IC := .draw [(⟨some 3, none, false, .fad 0 (.t 1)⟩, false, 0, 0),
  (⟨some 4, none, false, .ldc (.t 3)⟩, true, 1, 0),
  (⟨some 5, none, false, .cmp .lss (.t 4) (.k (.int .i64 1))⟩, false, 3, 0),
  (⟨some 6, none, false, .mv (.t 5)⟩, false, 7, 0),
  (⟨some 7, some (6, false), false, .fad 0 (.t 1)⟩, false, 15, 0),
  (⟨some 8, some (6, false), false, .ldc (.t 7)⟩, true, 31, 0),
  (⟨some 9, some (6, false), false, .cmp .gtr (.t 8) (.k (.int .i64 4))⟩, false, 63, 0),
  (⟨some 10, none, false, .pick (.t 6) (.k (.bool true)) (.t 9)⟩, false, 127, 0),
  (⟨some 11, none, false, .mv (.t 10)⟩, false, 255, 0),
  (⟨some 12, some (11, false), false, .call (.f 24) []⟩, false, 511, 1),
  (⟨some 13, some (11, false), false, .fad 1 (.t 1)⟩, false, 511, 0),
  (⟨some 14, some (11, false), false, .lda 2 (.t 13)⟩, false, 1535, 512),
  (⟨some 15, some (11, false), false, .bsl 2 1 [(.int .i64 0), (.int .i64 0)] [(0, (.t 14))]⟩, false, 3583, 512),
  (⟨some 16, some (11, false), false, .call (.f 23) [(.t 12), (.t 15)]⟩, true, 8191, 0),
  (⟨some 17, some (11, false), false, .not (.t 16)⟩, false, 16383, 0),
  (⟨some 18, none, false, .pick (.t 11) (.k (.bool true)) (.t 17)⟩, false, 32767, 0),
  (⟨some 19, none, false, .mv (.t 18)⟩, false, 65535, 0),
  (⟨some 20, some (19, false), false, .fad 3 (.t 1)⟩, false, 131071, 0),
  (⟨some 21, some (19, false), false, .ldc (.t 20)⟩, true, 262143, 0),
  (⟨some 22, some (19, false), false, .cmp .lss (.t 21) (.k (.int .i64 0))⟩, false, 524287, 0),
  (⟨some 23, none, false, .pick (.t 19) (.k (.bool true)) (.t 22)⟩, false, 1048575, 0),
  (⟨some 24, none, false, .mv (.t 23)⟩, false, 2097151, 0),
  (⟨some 25, some (24, false), false, .fad 3 (.t 1)⟩, false, 4194303, 0),
  (⟨some 26, some (24, false), false, .ldc (.t 25)⟩, true, 8388607, 0),
  (⟨some 27, some (24, false), false, .cmp .gtr (.t 26) (.k (.int .i64 1000000))⟩, false, 16777215, 0),
  (⟨some 28, none, false, .pick (.t 24) (.k (.bool true)) (.t 27)⟩, false, 33554431, 0),
  (⟨some 2, none, false, .mv (.t 28)⟩, false, 67108863, 0)] (some [2])
def ir26_1 : IC := .seq ir26_r1 .ret
def ir26_2 : IC := .seq ir26_r0 ir26_1
def ir26 : IC := ir26_2
theorem fn26 : FnIs Try.prog 26 ir26 29 [.tmp 2] := ⟨Try.f26, Try.f26.body.getD .skip, Try.func26, by kernel_rfl, by kernel_rfl, by kernel_rfl, by kernel_rfl⟩
/- boule/finish.Remove$2 · slots 10 · names 0:a 1:b 2:a 3:b · results [4] -/
def ir28_r0 : IC := .reg [⟨some 2, none, false, .box (.t 0)⟩,
  ⟨some 3, none, false, .box (.t 1)⟩,
  ⟨some 4, none, false, .mv (.k (.int .i64 0))⟩] (some [2, 3])
def ir28_r1 : IC := .reg [⟨some 5, none, false, .fad 0 (.t 2)⟩,
  ⟨some 6, none, false, .ldc (.t 5)⟩,
  ⟨some 7, none, false, .fad 0 (.t 3)⟩,
  ⟨some 8, none, false, .ldc (.t 7)⟩,
  ⟨some 9, none, false, .ar .sub (.t 6) (.t 8)⟩,
  ⟨some 4, none, false, .mv (.t 9)⟩] (some [4])
def ir28_1 : IC := .seq ir28_r1 .ret
def ir28_2 : IC := .seq ir28_r0 ir28_1
def ir28 : IC := ir28_2
theorem fn28 : FnIs Try.prog 28 ir28 10 [.tmp 4] := ⟨Try.f28, Try.f28.body.getD .skip, Try.func28, by kernel_rfl, by kernel_rfl, by kernel_rfl, by kernel_rfl⟩
/- slices.IsSortedFunc[[]boule/api.Removal,boule/api.Removal] · slots 25 · names 0:x 1:cmp 2:x 3:cmp 5:i · results [4] -/
def ir27_r0 : IC := .reg [⟨some 4, none, false, .mv (.k (.bool false))⟩] (some [0, 1])
def ir27_r1 : IC := .reg [⟨some 6, none, false, .mv (.t 0)⟩,
  ⟨some 7, none, false, .len (.t 6)⟩,
  ⟨some 8, none, false, .ar .sub (.t 7) (.k (.int .i64 1))⟩,
  ⟨some 5, none, false, .mv (.t 8)⟩] (some [0, 1, 5])
def ir27_r2 : IC := .reg [⟨some 9, none, false, .mv (.t 5)⟩,
  ⟨some 10, none, false, .cmp .gtr (.t 9) (.k (.int .i64 0))⟩] (some [0, 1, 5, 10])
def ir27_1 : IC := .cond (.t 10) .skip (.exit 0)
def ir27_2 : IC := .seq ir27_r2 ir27_1
def ir27_r4 : IC := .draw [(⟨some 13, none, false, .mv (.t 1)⟩, false, 0, 0),
  (⟨some 14, none, false, .mv (.t 0)⟩, false, 0, 0),
  (⟨some 15, none, false, .mv (.t 5)⟩, false, 0, 0),
  (⟨some 16, none, false, .iad 4 (.t 14) (.t 15)⟩, false, 6, 0),
  (⟨some 17, none, false, .lda 4 (.t 16)⟩, false, 14, 1),
  (⟨some 18, none, false, .mv (.t 0)⟩, false, 0, 0),
  (⟨some 19, none, false, .mv (.t 5)⟩, false, 0, 0),
  (⟨some 20, none, false, .ar .sub (.t 19) (.k (.int .i64 1))⟩, false, 64, 0),
  (⟨some 21, none, false, .iad 4 (.t 18) (.t 20)⟩, false, 224, 0),
  (⟨some 22, none, false, .lda 4 (.t 21)⟩, false, 480, 15),
  (⟨some 23, none, false, .call (.t 13) [(.t 17), (.t 22)]⟩, true, 1023, 0),
  (⟨some 24, none, false, .cmp .lss (.t 23) (.k (.int .i64 0))⟩, false, 2047, 0)] (some [0, 1, 5, 24])
def ir27_r5 : IC := .reg [⟨some 4, none, false, .mv (.k (.bool false))⟩] (some [4])
def ir27_3 : IC := .seq ir27_r5 .ret
def ir27_4 : IC := .cond (.t 24) ir27_3 .skip
def ir27_5 : IC := .seq ir27_r4 ir27_4
def ir27_6 : IC := .block 1 ir27_5
def ir27_r3 : IC := .reg [⟨some 11, none, false, .mv (.t 5)⟩,
  ⟨some 12, none, false, .ar .sub (.t 11) (.k (.int .i64 1))⟩,
  ⟨some 5, none, false, .mv (.t 12)⟩] (some [0, 1, 5])
def ir27_7 : IC := .seq ir27_6 ir27_r3
def ir27_8 : IC := .seq ir27_2 ir27_7
def ir27_9 : IC := .loop ir27_8
def ir27_10 : IC := .block 0 ir27_9
def ir27_11 : IC := .seq ir27_r1 ir27_10
def ir27_r6 : IC := .reg [⟨some 4, none, false, .mv (.k (.bool true))⟩] (some [4])
def ir27_12 : IC := .seq ir27_r6 .ret
def ir27_13 : IC := .seq ir27_11 ir27_12
def ir27_14 : IC := .seq ir27_r0 ir27_13
def ir27 : IC := ir27_14
theorem fn27 : FnIs Try.prog 27 ir27 25 [.tmp 4] := ⟨Try.f27, Try.f27.body.getD .skip, Try.func27, by kernel_rfl, by kernel_rfl, by kernel_rfl, by kernel_rfl⟩
theorem indexS_f (g : Nat) (p : Rm → Bool) (HG : ∀ x (h : AH), h.sees 0 = true → Fc Try.prog g [rmV x] h (.bool (p x)) h) (n : Nat) (xs : List Rm) (hn : xs.length = n) (hb : n ≤ 1000000) {h : AH} {s : Value} (h0 : h.sees 0 = true) (r : Rd h s n (rows eR xs)) :
    Fc Try.prog 51 [s, .func (.func g) #[] #[]] h (.int .i64 (idxF p xs)) h := by
  refine Fc.lift1 (mk := fun ss => ss ++ [.func (.func g) #[] #[]]) (mkv := fun _ => .int .i64 (idxF p xs)) (os := []) (fun c => ?_) (MkL.app rfl) (MkV.const rfl) (rows_no (f := eR) xs) (fun o ho => by cases ho) h0 r
  refine Fc.intro0 (h := H1 (rows eR xs)) fn51 (by simp) rfl rfl ?_; simp only [argF, List.cons_append, List.nil_append]
  refine ITri.seq ?_
  refine ITri.reg pok ?_; simp -implicitDefEqProofs (disch := first | decide | exact of_eq_true (eq_true rfl) | omega | assumption) only [ ↓vcD, vcE, ↓vcG, vcF, evs, evP, evB, intsOf, fillC, Value.cells, pt, Value.oneCell', reduceIte, reduceCtorEq, Nat.reduceEqDiff, Nat.reduceAdd, Nat.reduceMul, Nat.reduceLT, Nat.reduceBEq, Nat.reduceLeDiff, Nat.reduceSub] -- r0 slices.go:107
  refine ITri.seq ?_
  refine ITri.seq ?_
  refine ITri.reg pok ?_; simp -implicitDefEqProofs (disch := first | decide | exact of_eq_true (eq_true rfl) | omega | assumption) only [ ↓vcD, vcE, ↓vcG, vcF, evs, evP, evB, intsOf, fillC, Value.cells, pt, Value.oneCell', reduceIte, reduceCtorEq, Nat.reduceEqDiff, Nat.reduceAdd, Nat.reduceMul, Nat.reduceLT, Nat.reduceBEq, Nat.reduceLeDiff, Nat.reduceSub] -- r1
  refine ITri.block ?_
  refine ITri.loop (fun k : Nat => [(0, s1 n c), (1, .func (.func g) #[] #[]), (7, .int .i64 n), (8, .int .i64 k)]) (fun _ => []) (fun k => H1 (rows eR xs)) (fun k => k ≤ n ∧ ∀ j, j < k → p (nth xs j) = false) (fun k => n - k) 0 ⟨Nat.zero_le _, fun j hj => by omega⟩ (Wk.sub ⟨rfl, rfl, rfl, rfl, trivial⟩) fun k hk => ?_
  obtain ⟨hk, hj⟩ := hk
  refine ITri.seq ?_
  refine ITri.reg pok ?_; simp -implicitDefEqProofs (disch := first | decide | exact of_eq_true (eq_true rfl) | omega | assumption) only [ ↓vcD, vcE, ↓vcG, vcF, evs, evP, evB, intsOf, fillC, Value.cells, pt, Value.oneCell', reduceIte, reduceCtorEq, Nat.reduceEqDiff, Nat.reduceAdd, Nat.reduceMul, Nat.reduceLT, Nat.reduceBEq, Nat.reduceLeDiff, Nat.reduceSub]
  refine ITri.seq ?_
  refine ITri.condD (by rfl) (fun h1 => ?_) (fun h1 => ?_)
  · have h2 : k < n := by omega
    refine ITri.skip ?_; simp only [SeqQ_normal, BlkQ_normal]
    refine ITri.seq ?_
    refine ITri.block ?_
    refine ITri.seq ?_
    refine ITri.reg pok ?_; simp -implicitDefEqProofs (disch := first | decide | exact of_eq_true (eq_true rfl) | omega | assumption) only [ ↓vcD, vcE, ↓vcG, vcF, evs, evP, evB, intsOf, fillC, Value.cells, pt, Value.oneCell', reduceIte, reduceCtorEq, Nat.reduceEqDiff, Nat.reduceAdd, Nat.reduceMul, Nat.reduceLT, Nat.reduceBEq, Nat.reduceLeDiff, Nat.reduceSub]
    refine ITri.seq ?_
    refine ITri.reg pok ?_; simp -implicitDefEqProofs (disch := first | decide | exact of_eq_true (eq_true rfl) | omega | assumption) only [takeR,  ↓vcD, vcE, ↓vcG, vcF, evs, evP, evB, intsOf, fillC, Value.cells, pt, Value.oneCell', reduceIte, reduceCtorEq, Nat.reduceEqDiff, Nat.reduceAdd, Nat.reduceMul, Nat.reduceLT, Nat.reduceBEq, Nat.reduceLeDiff, Nat.reduceSub]
    refine ⟨_, _, HG _ _ (sees0 rfl (of_decide_eq_true rfl)), ?_⟩
    try simp -implicitDefEqProofs (disch := first | decide | exact of_eq_true (eq_true rfl) | omega | assumption) only [ ↓vcD, vcE, ↓vcG, vcF, evs, evP, evB, intsOf, fillC, Value.cells, pt, Value.oneCell', reduceIte, reduceCtorEq, Nat.reduceEqDiff, Nat.reduceAdd, Nat.reduceMul, Nat.reduceLT, Nat.reduceBEq, Nat.reduceLeDiff, Nat.reduceSub]
    refine ITri.cond (by rfl) (fun h3 => ?_) (fun h3 => ?_)
    · refine ITri.seq ?_
      refine ITri.reg pok ?_; simp -implicitDefEqProofs (disch := first | decide | exact of_eq_true (eq_true rfl) | omega | assumption) only [ ↓vcD, vcE, ↓vcG, vcF, evs, evP, evB, intsOf, fillC, Value.cells, pt, Value.oneCell', reduceIte, reduceCtorEq, Nat.reduceEqDiff, Nat.reduceAdd, Nat.reduceMul, Nat.reduceLT, Nat.reduceBEq, Nat.reduceLeDiff, Nat.reduceSub]
      refine ITri.ret ?_; exact EndR.plain (by simp) (by rfl) (by rw [idxF_some (by omega) h3 hj]; rfl) (by rfl)
    refine ITri.skip ?_; simp only [SeqQ_normal, BlkQ_normal]
    refine ITri.reg pok ?_; simp -implicitDefEqProofs (disch := first | decide | exact of_eq_true (eq_true rfl) | omega | assumption) only [ ↓vcD, vcE, ↓vcG, vcF, evs, evP, evB, intsOf, fillC, Value.cells, pt, Value.oneCell', reduceIte, reduceCtorEq, Nat.reduceEqDiff, Nat.reduceAdd, Nat.reduceMul, Nat.reduceLT, Nat.reduceBEq, Nat.reduceLeDiff, Nat.reduceSub]
    refine LoopQ.next (k + 1) ⟨by omega, fun j hj2 => ?_⟩ (by omega) (Wk.sub ⟨rfl, rfl, rfl, rfl, trivial⟩)
    rcases Nat.lt_or_ge j k with q | q
    · exact hj j q
    · obtain rfl : j = k := by omega
      exact h3
  refine ITri.exit ?_; try simp -implicitDefEqProofs (disch := first | decide | exact of_eq_true (eq_true rfl) | omega | assumption) only [ ↓vcD, vcE, ↓vcG, vcF, evs, evP, evB, intsOf, fillC, Value.cells, pt, Value.oneCell', reduceIte, reduceCtorEq, Nat.reduceEqDiff, Nat.reduceAdd, Nat.reduceMul, Nat.reduceLT, Nat.reduceBEq, Nat.reduceLeDiff, Nat.reduceSub]
  obtain rfl : n = k := by omega
  refine ITri.seq ?_
  refine ITri.reg pok ?_; simp -implicitDefEqProofs (disch := first | decide | exact of_eq_true (eq_true rfl) | omega | assumption) only [ ↓vcD, vcE, ↓vcG, vcF, evs, evP, evB, intsOf, fillC, Value.cells, pt, Value.oneCell', reduceIte, reduceCtorEq, Nat.reduceEqDiff, Nat.reduceAdd, Nat.reduceMul, Nat.reduceLT, Nat.reduceBEq, Nat.reduceLeDiff, Nat.reduceSub]
  refine ITri.ret ?_; exact EndR.plain (by simp) (by rfl) (by rw [idxF_none (any_before hn hj)]; rfl) (by rfl)
theorem containsS_f (g : Nat) (p : Rm → Bool) (HG : ∀ x (h : AH), h.sees 0 = true → Fc Try.prog g [rmV x] h (.bool (p x)) h) (n : Nat) (xs : List Rm) (hn : xs.length = n) (hb : n ≤ 1000000) {h : AH} {s : Value} (h0 : h.sees 0 = true) (r : Rd h s n (rows eR xs)) :
    Fc Try.prog 25 [s, .func (.func g) #[] #[]] h (.bool (xs.any p)) h := by
  refine Fc.lift1 (mk := fun ss => ss ++ [.func (.func g) #[] #[]]) (mkv := fun _ => .bool (xs.any p)) (os := []) (fun c => ?_) (MkL.app rfl) (MkV.const rfl) (rows_no (f := eR) xs) (fun o ho => by cases ho) h0 r
  refine Fc.intro0 (h := H1 (rows eR xs)) fn25 (by simp) rfl rfl ?_; simp only [argF, List.cons_append, List.nil_append]
  refine ITri.seq ?_
  refine ITri.reg pok ?_; simp -implicitDefEqProofs (disch := first | decide | exact of_eq_true (eq_true rfl) | omega | assumption) only [ ↓vcD, vcE, ↓vcG, vcF, evs, evP, evB, intsOf, fillC, Value.cells, pt, Value.oneCell', reduceIte, reduceCtorEq, Nat.reduceEqDiff, Nat.reduceAdd, Nat.reduceMul, Nat.reduceLT, Nat.reduceBEq, Nat.reduceLeDiff, Nat.reduceSub]
  refine ITri.seq ?_
  refine ITri.reg pok ?_; simp -implicitDefEqProofs (disch := first | decide | exact of_eq_true (eq_true rfl) | omega | assumption) only [ ↓vcD, vcE, ↓vcG, vcF, evs, evP, evB, intsOf, fillC, Value.cells, pt, Value.oneCell', reduceIte, reduceCtorEq, Nat.reduceEqDiff, Nat.reduceAdd, Nat.reduceMul, Nat.reduceLT, Nat.reduceBEq, Nat.reduceLeDiff, Nat.reduceSub]
  refine ⟨_, _, indexS_f g p HG n xs hn hb (sees0 rfl (of_decide_eq_true rfl)) (Rd.hq rfl rfl), ?_⟩
  try simp -implicitDefEqProofs (disch := first | decide | exact of_eq_true (eq_true rfl) | omega | assumption) only [ ↓vcD, vcE, ↓vcG, vcF, evs, evP, evB, intsOf, fillC, Value.cells, pt, Value.oneCell', reduceIte, reduceCtorEq, Nat.reduceEqDiff, Nat.reduceAdd, Nat.reduceMul, Nat.reduceLT, Nat.reduceBEq, Nat.reduceLeDiff, Nat.reduceSub]
  refine ITri.ret ?_; exact EndR.plain (by simp) (by rfl) (by rw [idxF_any]; rfl) (by rfl)
/-- A step that is no step. -/
def badS (r : Rm) : Bool := decide (r.k < 1) || decide (r.k > 4) || outR 0 10000000 (r.lo, r.hi)
theorem badS_f (x : Rm) (h : AH) (h0 : h.sees 0 = true) : Fc Try.prog 26 [rmV x] h (.bool (badS x)) h := by
  refine Fc.lift0 ?_ rfl rfl h0
  obtain ⟨k, lo, hi⟩ := x
  refine Fc.intro0 fn26 (by simp) rfl rfl ?_; simp only [argF]
  show ITri _ _ _ _ _ _ _ _ (EndR _ _ _ _ (.bool (decide (k < 1) || decide (k > 4) || outR 0 10000000 (lo, hi))))
  have n1 : ¬ (0 : Int) < 0 := by decide
  have n2 : ¬ (0 : Int) > 1000000 := by decide
  refine ITri.seq ?_
  refine ITri.reg pok ?_; simp -implicitDefEqProofs (disch := first | decide | exact of_eq_true (eq_true rfl) | omega | assumption) only [ ↓vcD, vcE, ↓vcG, vcF, evs, evP, evB, intsOf, fillC, Value.cells, pt, Value.oneCell', reduceIte, reduceCtorEq, Nat.reduceEqDiff, Nat.reduceAdd, Nat.reduceMul, Nat.reduceLT, Nat.reduceBEq, Nat.reduceLeDiff, Nat.reduceSub] -- r0
  refine ITri.seq ?_
  by_cases c1 : k < 1
  · rw [decide_eq_true c1]
    refine ITri.draw pok ?_; simp -implicitDefEqProofs (disch := first | decide | exact of_eq_true (eq_true rfl) | omega | assumption) only [c1, decide_true,  ↓vcD, vcE, ↓vcG, vcF, evs, evP, evB, intsOf, fillC, Value.cells, pt, Value.oneCell', reduceIte, reduceCtorEq, Nat.reduceEqDiff, Nat.reduceAdd, Nat.reduceMul, Nat.reduceLT, Nat.reduceBEq, Nat.reduceLeDiff, Nat.reduceSub] -- r1
    refine ITri.ret ?_; exact EndR.plain (by simp) (by rfl) (by rfl) (by rfl)
  by_cases c2 : k > 4
  · rw [decide_eq_false c1, decide_eq_true c2]
    refine ITri.draw pok ?_; simp -implicitDefEqProofs (disch := first | decide | exact of_eq_true (eq_true rfl) | omega | assumption) only [c1, c2, decide_true, decide_false,  ↓vcD, vcE, ↓vcG, vcF, evs, evP, evB, intsOf, fillC, Value.cells, pt, Value.oneCell', reduceIte, reduceCtorEq, Nat.reduceEqDiff, Nat.reduceAdd, Nat.reduceMul, Nat.reduceLT, Nat.reduceBEq, Nat.reduceLeDiff, Nat.reduceSub] -- r1
    refine ITri.ret ?_; exact EndR.plain (by simp) (by rfl) (by rfl) (by rfl)
  rw [decide_eq_false c1, decide_eq_false c2]
  refine ITri.draw pok ?_; simp -implicitDefEqProofs (disch := first | decide | exact of_eq_true (eq_true rfl) | omega | assumption) only [c1, c2, decide_false,  ↓vcD, vcE, ↓vcG, vcF, evs, evP, evB, intsOf, fillC, Value.cells, pt, Value.oneCell', reduceIte, reduceCtorEq, Nat.reduceEqDiff, Nat.reduceAdd, Nat.reduceMul, Nat.reduceLT, Nat.reduceBEq, Nat.reduceLeDiff, Nat.reduceSub] -- r1
  refine ⟨_, _, amo_f (sees0 rfl (of_decide_eq_true rfl)), ?_⟩
  try simp -implicitDefEqProofs (disch := first | decide | exact of_eq_true (eq_true rfl) | omega | assumption) only [ ↓vcD, vcE, ↓vcG, vcF, evs, evP, evB, intsOf, fillC, Value.cells, pt, Value.oneCell', reduceIte, reduceCtorEq, Nat.reduceEqDiff, Nat.reduceAdd, Nat.reduceMul, Nat.reduceLT, Nat.reduceBEq, Nat.reduceLeDiff, Nat.reduceSub]
  refine ⟨_, _, has_f _ _ [(lo, hi)] 1 rfl (by decide) (sees0 rfl (of_decide_eq_true rfl)) (Rd.hq rfl rfl), ?_⟩
  have e : [(lo, hi)].any (outR 0 10000000) = outR 0 10000000 (lo, hi) := by simp
  cases ho : outR 0 10000000 (lo, hi) with
  | true =>
    simp -implicitDefEqProofs (disch := first | decide | exact of_eq_true (eq_true rfl) | omega | assumption) only [e, ho, Bool.not_true, Bool.not_false,  ↓vcD, vcE, ↓vcG, vcF, evs, evP, evB, intsOf, fillC, Value.cells, pt, Value.oneCell', reduceIte, reduceCtorEq, Nat.reduceEqDiff, Nat.reduceAdd, Nat.reduceMul, Nat.reduceLT, Nat.reduceBEq, Nat.reduceLeDiff, Nat.reduceSub]
    refine ITri.ret ?_; exact EndR.plain (by simp) (by rfl) (by rfl) (by rfl)
  | false =>
    simp -implicitDefEqProofs (disch := first | decide | exact of_eq_true (eq_true rfl) | omega | assumption) only [e, ho, n1, n2, decide_false, Bool.not_true, Bool.not_false,  ↓vcD, vcE, ↓vcG, vcF, evs, evP, evB, intsOf, fillC, Value.cells, pt, Value.oneCell', reduceIte, reduceCtorEq, Nat.reduceEqDiff, Nat.reduceAdd, Nat.reduceMul, Nat.reduceLT, Nat.reduceBEq, Nat.reduceLeDiff, Nat.reduceSub]
    refine ITri.ret ?_; exact EndR.plain (by simp) (by rfl) (by rfl) (by rfl)
theorem less_c {a b : Rm} (ha : 1 ≤ a.k ∧ a.k ≤ 4) (hb : 1 ≤ b.k ∧ b.k ≤ 4) {h : AH} (h0 : h.sees 0 = true) : Fc Try.prog 28 [rmV a, rmV b] h (.int .i64 (a.k - b.k)) h := by
  refine Fc.lift0 ?_ rfl rfl h0
  refine Fc.intro0 fn28 (by simp) rfl rfl ?_; simp only [argF]
  refine ITri.seq ?_
  refine ITri.reg pok ?_; simp -implicitDefEqProofs (disch := first | decide | exact of_eq_true (eq_true rfl) | omega | assumption) only [ ↓vcD, vcE, ↓vcG, vcF, evs, evP, evB, intsOf, fillC, Value.cells, pt, Value.oneCell', reduceIte, reduceCtorEq, Nat.reduceEqDiff, Nat.reduceAdd, Nat.reduceMul, Nat.reduceLT, Nat.reduceBEq, Nat.reduceLeDiff, Nat.reduceSub] -- r0
  refine ITri.seq ?_
  refine ITri.reg pok ?_; simp -implicitDefEqProofs (disch := first | decide | exact of_eq_true (eq_true rfl) | omega | assumption) only [ ↓vcD, vcE, ↓vcG, vcF, evs, evP, evB, intsOf, fillC, Value.cells, pt, Value.oneCell', reduceIte, reduceCtorEq, Nat.reduceEqDiff, Nat.reduceAdd, Nat.reduceMul, Nat.reduceLT, Nat.reduceBEq, Nat.reduceLeDiff, Nat.reduceSub] -- r1
  refine ITri.ret ?_; exact EndR.plain (by simp) (by rfl) (by rfl) (by rfl)
theorem sorted_f {n : Nat} {xs : List Rm} (hn : xs.length = n) (hb : n ≤ 1000000) (hk : ∀ i, i < n → 1 ≤ (nth xs i).k ∧ (nth xs i).k ≤ 4) {r : Bool} (hr : r = true ↔ ∀ j, j + 1 < n → (nth xs j).k ≤ (nth xs (j + 1)).k) {h : AH} {s : Value} (h0 : h.sees 0 = true) (rd : Rd h s n (rows eR xs)) :
    Fc Try.prog 27 [s, .func (.func 28) #[] #[]] h (.bool r) h := by
  refine Fc.lift1 (mk := fun ss => ss ++ [.func (.func 28) #[] #[]]) (mkv := fun _ => .bool r) (os := []) (fun c => ?_) (MkL.app rfl) (MkV.const rfl) (rows_no (f := eR) xs) (fun o ho => by cases ho) h0 rd
  refine Fc.intro0 (h := H1 (rows eR xs)) fn27 (by simp) rfl rfl ?_; simp only [argF, List.cons_append, List.nil_append]
  refine ITri.seq ?_
  refine ITri.reg pok ?_; simp -implicitDefEqProofs (disch := first | decide | exact of_eq_true (eq_true rfl) | omega | assumption) only [ ↓vcD, vcE, ↓vcG, vcF, evs, evP, evB, intsOf, fillC, Value.cells, pt, Value.oneCell', reduceIte, reduceCtorEq, Nat.reduceEqDiff, Nat.reduceAdd, Nat.reduceMul, Nat.reduceLT, Nat.reduceBEq, Nat.reduceLeDiff, Nat.reduceSub] -- r0
  refine ITri.seq ?_
  refine ITri.seq ?_
  refine ITri.reg pok ?_; simp -implicitDefEqProofs (disch := first | decide | exact of_eq_true (eq_true rfl) | omega | assumption) only [ ↓vcD, vcE, ↓vcG, vcF, evs, evP, evB, intsOf, fillC, Value.cells, pt, Value.oneCell', reduceIte, reduceCtorEq, Nat.reduceEqDiff, Nat.reduceAdd, Nat.reduceMul, Nat.reduceLT, Nat.reduceBEq, Nat.reduceLeDiff, Nat.reduceSub] -- r1
  refine ITri.block ?_ -- 0
  refine ITri.loop (fun k : Nat => [(0, s1 n c), (1, .func (.func 28) #[] #[]), (5, .int .i64 ((k : Int) - 1))]) (fun _ => []) (fun k => H1 (rows eR xs)) (fun k => k ≤ n ∧ ∀ j, k ≤ j + 1 → j + 1 < n → (nth xs j).k ≤ (nth xs (j + 1)).k) (fun k => k) n ⟨Nat.le_refl _, fun j h1 h2 => by omega⟩ (Wk.sub ⟨rfl, rfl, rfl, trivial⟩) fun k hk2 => ?_
  obtain ⟨hkn, hj⟩ := hk2
  refine ITri.seq ?_
  refine ITri.seq ?_
  refine ITri.reg pok ?_; simp -implicitDefEqProofs (disch := first | decide | exact of_eq_true (eq_true rfl) | omega | assumption) only [ ↓vcD, vcE, ↓vcG, vcF, evs, evP, evB, intsOf, fillC, Value.cells, pt, Value.oneCell', reduceIte, reduceCtorEq, Nat.reduceEqDiff, Nat.reduceAdd, Nat.reduceMul, Nat.reduceLT, Nat.reduceBEq, Nat.reduceLeDiff, Nat.reduceSub] -- r2
  refine ITri.condD (by rfl) (fun h1 => ?_) (fun h1 => ?_)
  · obtain ⟨j, rfl⟩ : ∃ j, k = j + 2 := ⟨k - 2, by omega⟩
    have e1 : ((j + 2 : Nat) : Int) - 1 = ((j + 1 : Nat) : Int) := by omega
    have e2 : ((j + 1 : Nat) : Int) - 1 = (j : Int) := by omega
    have g1 := takeR (xs := xs) (i := j + 1) (by omega)
    have g2 := takeR (xs := xs) (i := j) (by omega)
    have k1 := hk (j + 1) (by omega)
    have k2 := hk j (by omega)
    refine ITri.skip ?_; simp only [SeqQ_normal, BlkQ_normal]
    rw [e1]
    refine ITri.seq ?_
    refine ITri.block ?_ -- 1
    refine ITri.seq ?_
    refine ITri.draw pok ?_; simp -implicitDefEqProofs (disch := first | decide | exact of_eq_true (eq_true rfl) | omega | assumption) only [e2, g1, g2,  ↓vcD, vcE, ↓vcG, vcF, evs, evP, evB, intsOf, fillC, Value.cells, pt, Value.oneCell', reduceIte, reduceCtorEq, Nat.reduceEqDiff, Nat.reduceAdd, Nat.reduceMul, Nat.reduceLT, Nat.reduceBEq, Nat.reduceLeDiff, Nat.reduceSub] -- r4
    refine ⟨_, _, less_c k1 k2 (sees0 rfl (of_decide_eq_true rfl)), ?_⟩
    by_cases c1 : (nth xs (j + 1)).k - (nth xs j).k < 0
    · obtain rfl : r = false := by
        cases r with
        | false => rfl
        | true =>
          have := hr.1 rfl j (by omega)
          omega
      simp -implicitDefEqProofs (disch := first | decide | exact of_eq_true (eq_true rfl) | omega | assumption) only [c1, decide_true,  ↓vcD, vcE, ↓vcG, vcF, evs, evP, evB, intsOf, fillC, Value.cells, pt, Value.oneCell', reduceIte, reduceCtorEq, Nat.reduceEqDiff, Nat.reduceAdd, Nat.reduceMul, Nat.reduceLT, Nat.reduceBEq, Nat.reduceLeDiff, Nat.reduceSub]
      refine ITri.cond (v := true) rfl (fun _ => ?_) (fun h => by cases h)
      refine ITri.seq ?_
      refine ITri.reg pok ?_; simp -implicitDefEqProofs (disch := first | decide | exact of_eq_true (eq_true rfl) | omega | assumption) only [ ↓vcD, vcE, ↓vcG, vcF, evs, evP, evB, intsOf, fillC, Value.cells, pt, Value.oneCell', reduceIte, reduceCtorEq, Nat.reduceEqDiff, Nat.reduceAdd, Nat.reduceMul, Nat.reduceLT, Nat.reduceBEq, Nat.reduceLeDiff, Nat.reduceSub] -- r5
      refine ITri.ret ?_; exact EndR.plain (by simp) (by rfl) (by rfl) (by rfl)
    · simp -implicitDefEqProofs (disch := first | decide | exact of_eq_true (eq_true rfl) | omega | assumption) only [c1, decide_false,  ↓vcD, vcE, ↓vcG, vcF, evs, evP, evB, intsOf, fillC, Value.cells, pt, Value.oneCell', reduceIte, reduceCtorEq, Nat.reduceEqDiff, Nat.reduceAdd, Nat.reduceMul, Nat.reduceLT, Nat.reduceBEq, Nat.reduceLeDiff, Nat.reduceSub]
      refine ITri.cond (v := false) rfl (fun h => by cases h) (fun _ => ?_); refine ITri.skip ?_; simp only [SeqQ_normal, BlkQ_normal]
      refine ITri.reg pok ?_; simp -implicitDefEqProofs (disch := first | decide | exact of_eq_true (eq_true rfl) | omega | assumption) only [e2,  ↓vcD, vcE, ↓vcG, vcF, evs, evP, evB, intsOf, fillC, Value.cells, pt, Value.oneCell', reduceIte, reduceCtorEq, Nat.reduceEqDiff, Nat.reduceAdd, Nat.reduceMul, Nat.reduceLT, Nat.reduceBEq, Nat.reduceLeDiff, Nat.reduceSub] -- r3
      refine LoopQ.next (j + 1) ⟨by omega, fun i h3 h4 => ?_⟩ (by show j + 1 < j + 2; omega) (Wk.sub ⟨rfl, rfl, by rw [e2]; rfl, trivial⟩)
      by_cases hi : i = j
      · subst hi; omega
      · exact hj i (by omega) h4
  refine ITri.exit ?_; try simp -implicitDefEqProofs (disch := first | decide | exact of_eq_true (eq_true rfl) | omega | assumption) only [ ↓vcD, vcE, ↓vcG, vcF, evs, evP, evB, intsOf, fillC, Value.cells, pt, Value.oneCell', reduceIte, reduceCtorEq, Nat.reduceEqDiff, Nat.reduceAdd, Nat.reduceMul, Nat.reduceLT, Nat.reduceBEq, Nat.reduceLeDiff, Nat.reduceSub] -- exit 0
  obtain rfl : r = true := hr.2 fun j h3 => hj j (by omega) h3
  refine ITri.seq ?_
  refine ITri.reg pok ?_; simp -implicitDefEqProofs (disch := first | decide | exact of_eq_true (eq_true rfl) | omega | assumption) only [ ↓vcD, vcE, ↓vcG, vcF, evs, evP, evB, intsOf, fillC, Value.cells, pt, Value.oneCell', reduceIte, reduceCtorEq, Nat.reduceEqDiff, Nat.reduceAdd, Nat.reduceMul, Nat.reduceLT, Nat.reduceBEq, Nat.reduceLeDiff, Nat.reduceSub] -- r6
  refine ITri.ret ?_; exact EndR.plain (by simp) (by rfl) (by rfl) (by rfl)
end Go.Proofs.Ytjfgbdmdnejhdaa
