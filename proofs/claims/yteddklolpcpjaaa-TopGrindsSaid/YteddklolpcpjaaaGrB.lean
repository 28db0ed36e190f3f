/-
  Chapters 4 and 7 at the top: helpers; closures over a box.
-/
import Derived.Test.YteddklolpcpjaaaFitKv
import Derived.Test.YteddklolpcpjaaaMj
set_option linter.unusedSimpArgs false
set_option linter.unusedVariables false
namespace Go.Vm
open Go Go.RowKit
theorem Fc.plainRun {P : Program} {f : Nat} {args : List Value} {v : Value} {h1 : AH} (F : Fc P f args (Hp 1 [none]) v h1) (ha : noAddrL args = true) (hv : noAddr v = true) {h : AH} (hs : h.sees 0 = true) : Fc P f args h v h :=
  Fc.lift0 (Fc.gc (os := []) F rfl rfl [] [] rfl List.nodup_nil (fun s hs => by cases hs) (fun p hp => by cases hp) (mv_noAddr _ _ _ hv).symm (okM_noAddr _ _ _ hv) (fun i o2 ho => by cases ho)) ha hv hs
def sameS : Value → Value → Bool
  | .string a, .string b => decide (a = b)
  | a, b => sameV a b
theorem sameS_eq {a b : Value} (h : sameS a b = true) : a = b := by
  unfold sameS at h
  split at h
  · simp only [decide_eq_true_eq] at h; rw [h]
  · exact sameV_eq h
def sameSL : List Value → List Value → Bool
  | [], [] => true
  | a :: r, b :: s => sameS a b && sameSL r s
  | _, _ => false
theorem sameSL_eq : ∀ {a b : List Value}, sameSL a b = true → a = b
  | [], [], _ => rfl
  | a :: r, b :: s, h => by
    simp only [sameSL, Bool.and_eq_true] at h
    rw [sameS_eq h.1, sameSL_eq h.2]
  | [], _ :: _, h => by cases h
  | _ :: _, [], h => by cases h
def sameU : Value → Value → Bool
  | .agg a, .agg b => sameSL a.toList b.toList
  | .tuple a, .tuple b => sameSL a.toList b.toList
  | a, b => sameS a b
theorem sameU_eq {a b : Value} (h : sameU a b = true) : a = b := by
  unfold sameU at h
  split at h
  · rw [Array.toList_inj.1 (sameSL_eq h)]
  · rw [Array.toList_inj.1 (sameSL_eq h)]
  · exact sameS_eq h
def runV (r : Option (Value × AH)) (v : Value) : Bool := match r with
  | some (w, _) => sameU w v
  | none => false
theorem runV_ok {r : Option (Value × AH)} {v : Value} (h : runV r v = true) : ∃ h1, r = some (v, h1) := by
  unfold runV at h
  split at h
  · rename_i w h1
    exact ⟨h1, by rw [sameU_eq h]⟩
  · cases h
end Go.Vm
namespace Go.Vm
open Go Go.RowKit
section
variable {P : Program} {w : Bool} {t el : TypeId} {f : TypeInfo} {s k o n : Nat} {l : Fr} {h : AH} {K : Value → AH → Prop}
/-- An array as a slice. -/
theorem gen_arr (hu : P.underlying t = some (.array n el)) (hi : P.info? el = some f) (hl : lk l s = some (.pointer (some ⟨k, o, none⟩))) (hn : 0 < n) (hno : n < openB) (q : K (.slice (some ⟨k, o, none⟩) n n) h) : iStep P w (.gen (.slice t (.tmp s) none none none)) l h K := by
  refine ⟨_, _, ?_, q⟩
  have e1 : aEnv (trOf l) (.tmp s) = some (.pointer (some ⟨k, o, none⟩)) := by simp only [aEnv, trOf_get, hl]
  have e4 : aOptV (aEnv (trOf l)) none = some none := rfl
  have hv : aSlice P t (.pointer (some ⟨k, o, none⟩)) none none none = some (.slice (some ⟨k, o, none⟩) n n) := by
    have n1 : natOf none 0 = some 0 := rfl
    have n2 : natOf none n = some n := rfl
    simp only [aSlice, hu, hi, n1, n2]
    rw [if_pos ⟨Nat.zero_le _, Nat.le_refl _, Nat.le_refl _, rfl, hno⟩, if_neg (by omega), Nat.zero_mul, Nat.sub_zero]
    simp [Addr.add]
  simp only [aOp, e1, e4, hv]
end
end Go.Vm
namespace Go.Vm
open Go Go.RowKit
/-- An element of an array. -/
theorem gen_idx {P : Program} {w : Bool} {t : TypeId} {s d : Nat} {l : Fr} {h : AH} {K : Value → AH → Prop} {x i v : Value} (h1 : lk l s = some x) (h2 : lk l d = some i) (he : aIndex P t x i = some v) (q : K v h) : iStep P w (.gen (.index t (.tmp s) (.tmp d))) l h K := by
  refine ⟨_, _, ?_, q⟩
  have e1 : aEnv (trOf l) (.tmp s) = some x := by simp only [aEnv, trOf_get, h1]
  have e2 : aEnv (trOf l) (.tmp d) = some i := by simp only [aEnv, trOf_get, h2]
  simp only [aOp, e1, e2, he]
end Go.Vm

namespace Go.Vm
open Go Go.RowKit
/-- A value made of a slice. -/
structure MvV (mk : Value → Value) : Prop where
  mv : ∀ σ ξ s, Vm.mv σ ξ (mk s) = mk (Vm.mv σ ξ s)
  ok : ∀ ξ B s, okM ξ B s → okM ξ B (mk s)
section
variable {P : Program} {rs : List ResultVar} {l : Fr} {L : List (Option AObj)} {k n b sz : Nat} {cs : List Value} {vs : List Value} {mk : Value → Value} {op : Bool}
/-- How a function ends that returns one of its own rows with open room. -/
theorem end_mk (hmk : MvV mk) (hk : b ≤ k) (hno : noAddrL cs = true) (hL : (L[k]?).join = some (.cells ⟨cs, sz, true⟩)) (hr : resF P l (Hp b L) rs = some vs) (hv : packV vs = mk (.slice (some ⟨k, 0, none⟩) n openB)) :
    EndR P rs b [.cells ⟨cs, sz, true⟩] (mk (.slice (some ⟨b, 0, none⟩) n openB)) .ret l [] (Hp b L) := by
  refine ⟨by simp, rfl, vs, [k], [], hr, rfl, by simp, by simpa using hk, (fun p hp => by cases hp), ?_, hmk.ok _ _ _ ?_, fun i o2 h => .inr ?_⟩
  · rw [hv, hmk.mv]
    congr 1
    show _ = mvS .same ⟨(fun k' => if k' < b then k' else [k].getD (k' - b) 0) b, 0, none⟩ n openB
    simp [mvS]
  · exact ⟨by simp, trivial⟩
  · match i, h with
    | 0, h =>
      cases h
      refine ⟨(by intro e; cases e), _, (by show (Hp b L).get k = _; rw [Hp_get]; exact hL), ?_⟩
      exact ⟨(mvL_noAddr _ _ _ hno).symm, okML_noAddr _ _ _ hno, fun e => e, fun e => ⟨e, rfl⟩⟩
/-- The same where it returns nil. -/
theorem end_nil (hmk : MvV mk) (hr : resF P l (Hp b L) rs = some vs) (hv : packV vs = mk (.slice none 0 0)) :
    EndR P rs b [.cells ⟨[], sz, true⟩] (mk (.slice (some ⟨b, 0, none⟩) 0 openB)) .ret l [] (Hp b L) := by
  refine ⟨by simp, rfl, vs, [b], [(b, .nil)], hr, rfl, by simp, by simp, (fun p hp => by simp at hp; subst hp; exact ⟨Nat.le_refl _, trivial⟩), ?_, hmk.ok _ _ _ ?_, fun i o2 h => .inl ?_⟩
  · rw [hv, hmk.mv]
    congr 1
    show _ = mvS (xiL [(b, .nil)] b) _ 0 openB
    simp [mvS, xiL]
  · refine ⟨by show b < b + 1; omega, ?_⟩
    show okS (xiL [(b, .nil)] b) 0 openB
    simp [xiL, okS]
  · match i, h with
    | 0, h =>
      cases h
      exact ⟨by simp [xiL], rfl⟩
end
theorem cells_all {wl k sz m : Nat} {op : Bool} {M : List (Option AObj)} {cs : List Value} (h : M[k]? = some (some (.cells ⟨cs, sz, op⟩))) (hl : cs.length = m) : cellsAt (Hp wl M) k 0 m = some cs := by
  unfold cellsAt
  rw [show (Hp wl M).get k = some (.cells ⟨cs, sz, op⟩) from get_hq rfl (by rw [h]; rfl)]
  simp only [List.drop_zero, List.take_of_length_le (show cs.length ≤ m by omega)]
  exact if_pos (by omega)
theorem set_id {α : Type} {L : List α} {k : Nat} {x : α} (h : L[k]? = some x) : L.set k x = L := by
  apply List.ext_getElem?
  intro j
  rw [List.getElem?_set]
  split
  · rename_i e
    subst e
    rw [if_pos (List.getElem?_eq_some_iff.1 h).1, h]
  · rfl
end Go.Vm
namespace Go.Vm
open Go Go.RowKit
section
variable {P : Program} {w : Bool} {t el : TypeId} {f : TypeInfo} {s e k n i sz : Nat} {l : Fr} {h : AH} {K : Value → AH → Prop}
/-- The first elements of a row with open room. -/
theorem gen_to (hu : P.underlying t = some (.slice el)) (hi : P.info? el = some f) (hl : lk l s = some (.slice (some ⟨k, 0, none⟩) n openB)) (he : lk l e = some (.int .i64 i)) (hn : i ≤ n) (q : K (.slice (some ⟨k, 0, none⟩) i openB) h) :
    iStep P w (.gen (.slice t (.tmp s) none (some (.tmp e)) none)) l h K := by
  refine ⟨_, _, ?_, q⟩
  have ho : ¬ openB < openB := Nat.lt_irrefl _
  have h1 : aSlice P t (.slice (some ⟨k, 0, none⟩) n openB) none (some (.int .i64 i)) none = some (.slice (some ⟨k, 0, none⟩) i openB) := by
    simp [aSlice, hu, hi, natOf, ho, Addr.add, hn]
  have e1 : aEnv (trOf l) (.tmp s) = some (.slice (some ⟨k, 0, none⟩) n openB) := by simp only [aEnv, trOf_get, hl]
  have e2 : aOptV (aEnv (trOf l)) (some (.tmp e)) = some (some (.int .i64 i)) := by simp only [aOptV, aEnv, trOf_get, he]
  have e3 : aOptV (aEnv (trOf l)) none = some none := rfl
  simp only [aOp, e1, e2, e3, h1]
/-- The elements from one on. -/
theorem gen_from {j : Int} (hu : P.underlying t = some (.slice el)) (hi : P.info? el = some f) (hsz : f.size = sz) (hl : lk l s = some (.slice (some ⟨k, 0, none⟩) n openB)) (he : lk l e = some (.int .i64 j)) (hj : j = i) (hn : i < n) (q : K (.slice (some ⟨k, i * sz, none⟩) (n - i) (openB + i)) h) :
    iStep P w (.gen (.slice t (.tmp s) (some (.tmp e)) none none)) l h K := by
  subst hj
  refine ⟨_, _, ?_, q⟩
  have ho : ¬ openB < openB := Nat.lt_irrefl _
  have h1 : aSlice P t (.slice (some ⟨k, 0, none⟩) n openB) (some (.int .i64 i)) none none = some (.slice (some ⟨k, i * sz, none⟩) (n - i) (openB + i)) := by
    simp [aSlice, hu, hi, natOf, ho, hsz, Addr.add]
    omega
  have e1 : aEnv (trOf l) (.tmp s) = some (.slice (some ⟨k, 0, none⟩) n openB) := by simp only [aEnv, trOf_get, hl]
  have e2 : aOptV (aEnv (trOf l)) (some (.tmp e)) = some (some (.int .i64 i)) := by simp only [aOptV, aEnv, trOf_get, he]
  have e3 : aOptV (aEnv (trOf l)) none = some none := rfl
  simp only [aOp, e1, e2, e3, h1]
/-- None of them. -/
theorem gen_fromE {j : Int} (hu : P.underlying t = some (.slice el)) (hi : P.info? el = some f) (hl : lk l s = some (.slice (some ⟨k, 0, none⟩) n openB)) (he : lk l e = some (.int .i64 j)) (hj : j = n) (hn : n ≠ 0) (q : K (.slice (some ⟨h.next, 0, none⟩) 0 openB) h.bump) :
    iStep P w (.gen (.slice t (.tmp s) (some (.tmp e)) none none)) l h K := by
  subst hj
  refine ⟨_, _, ?_, q⟩
  have ho : ¬ openB < openB := Nat.lt_irrefl _
  have h1 : ∀ h : AH, aSlice P t (.slice (some ⟨k, 0, none⟩) n openB) (some (.int .i64 n)) none none = none := fun _ => by
    simp [aSlice, hu, hi, natOf, ho, hn]
  have h2 : aSliceEnd P h t (.slice (some ⟨k, 0, none⟩) n openB) (some (.int .i64 n)) none none = some (.slice (some ⟨h.next, 0, none⟩) 0 openB, h.bump) := by
    simp [aSliceEnd, hu, hi, natOf]
  have e1 : aEnv (trOf l) (.tmp s) = some (.slice (some ⟨k, 0, none⟩) n openB) := by simp only [aEnv, trOf_get, hl]
  have e2 : aOptV (aEnv (trOf l)) (some (.tmp e)) = some (some (.int .i64 n)) := by simp only [aOptV, aEnv, trOf_get, he]
  have e3 : aOptV (aEnv (trOf l)) none = some none := rfl
  simp only [aOp, e1, e2, e3, h1 h, h2]
end
end Go.Vm
namespace Go.Proofs.Yteddklolpcpjaaa
open Go.RowKit Go.Vm
set_option maxRecDepth 100000
abbrev I6 (n : Int) : Value := .int .i64 n
instance flI : FlatE eI 1 := ⟨fun _ => rfl, fun _ => rfl, fun _ => rfl⟩
instance flII : FlatE eII 2 := ⟨fun _ => rfl, fun _ => rfl, fun _ => rfl⟩
theorem getI {xs : List Int} {i : Nat} (hi : i < xs.length) : (rows eI xs)[i]? = some (.int .i64 (nth xs i)) := rows_get1 (f := eI) hi
abbrev H1 (cs : List Value) : AH := Hp 2 [none, some (.cells ⟨cs, 0, false⟩)]
abbrev s1 (n c : Nat) : Value := .slice (some ⟨1, 0, none⟩) n c
def idxF {α : Type} (p : α → Bool) (xs : List α) : Int := match xs.findIdx? p with | some i => (i : Int) | none => -1
theorem idxF_none {α : Type} {p : α → Bool} {xs : List α} (h : xs.any p = false) : idxF p xs = -1 := by
  unfold idxF
  rw [List.findIdx?_eq_none_iff.2 (fun x hx => by simpa using List.any_eq_false.1 h x hx)]
theorem idxF_some {α : Type} [Inhabited α] {p : α → Bool} {xs : List α} {i : Nat} (hi : i < xs.length) (hp : p (nth xs i) = true) (hb : ∀ j, j < i → p (nth xs j) = false) : idxF p xs = i := by
  unfold idxF
  rw [List.findIdx?_eq_some_iff_getElem.2 ⟨hi, by rw [← List.getElem?_eq_some_iff.1 (get_nth hi) |>.2] at hp; exact hp, fun j hj => by
    have := hb j hj
    rw [← List.getElem?_eq_some_iff.1 (get_nth (show j < xs.length by omega)) |>.2] at this
    simp [this]⟩]
theorem idxF_any {α : Type} {p : α → Bool} {xs : List α} : decide (0 ≤ idxF p xs) = xs.any p := by
  cases h : xs.any p with
  | false => rw [idxF_none h]; rfl
  | true =>
    unfold idxF
    cases e : xs.findIdx? p with
    | none => rw [List.findIdx?_eq_none_iff] at e; rw [List.any_eq_true] at h; obtain ⟨x, hx, h⟩ := h; rw [e x hx] at h; cases h
    | some i => simp
theorem any_before {α : Type} [Inhabited α] {p : α → Bool} {xs : List α} {n : Nat} (hn : xs.length = n) (hj : ∀ j, j < n → p (nth xs j) = false) : xs.any p = false := by
  rw [List.any_eq_false]
  intro x hx
  obtain ⟨i, hi, rfl⟩ := List.mem_iff_getElem.1 hx
  have := hj i (by omega)
  rw [show xs[i] = nth xs i from (List.getElem?_eq_some_iff.1 (get_nth hi)).2]
  simp [this]


abbrev sO (a n : Nat) : Value := .slice (some ⟨a, 0, none⟩) n openB
/- slices.IndexFunc[[]int,int] · slots 19 · names 0:s 1:f 2:s 3:f 5:i · results [4] -/
def ir79_r0 : IC := .reg [⟨some 4, none, false, .mv (.k (.int .i64 0))⟩] (some [0, 1])
def ir79_r1 : IC := .reg [⟨some 6, none, false, .mv (.t 0)⟩,
  ⟨some 7, none, false, .len (.t 6)⟩,
  ⟨some 8, none, false, .mv (.k (.int .i64 0))⟩] (some [0, 1, 7, 8])
def ir79_r2 : IC := .reg [⟨some 9, none, false, .cmp .lss (.t 8) (.t 7)⟩] (some [0, 1, 7, 8, 9])
def ir79_1 : IC := .cond (.t 9) .skip (.exit 0)
def ir79_r3 : IC := .reg [⟨some 10, none, false, .mv (.t 8)⟩,
  ⟨some 5, none, false, .mv (.t 10)⟩] (some [0, 1, 5, 7, 8])
def ir79_r4 : IC := .reg [⟨some 11, none, false, .mv (.t 1)⟩,
  ⟨some 12, none, false, .mv (.t 0)⟩,
  ⟨some 13, none, false, .mv (.t 5)⟩,
  ⟨some 14, none, false, .iad 1 (.t 12) (.t 13)⟩,
  ⟨some 15, none, false, .ldc (.t 14)⟩,
  ⟨some 16, none, false, .call (.t 11) [(.t 15)]⟩] (some [0, 1, 5, 7, 8, 16])
def ir79_r5 : IC := .reg [⟨some 17, none, false, .mv (.t 5)⟩,
  ⟨some 4, none, false, .mv (.t 17)⟩] (some [4])
def ir79_2 : IC := .seq ir79_r5 .ret
def ir79_3 : IC := .cond (.t 16) ir79_2 .skip
def ir79_4 : IC := .seq ir79_r4 ir79_3
def ir79_5 : IC := .seq ir79_r3 ir79_4
def ir79_6 : IC := .block 1 ir79_5
def ir79_r6 : IC := .reg [⟨some 18, none, false, .ar .add (.t 8) (.k (.int .i64 1))⟩,
  ⟨some 8, none, false, .mv (.t 18)⟩] (some [0, 1, 7, 8])
def ir79_7 : IC := .seq ir79_6 ir79_r6
def ir79_8 : IC := .seq ir79_1 ir79_7
def ir79_9 : IC := .seq ir79_r2 ir79_8
def ir79_10 : IC := .loop ir79_9
def ir79_11 : IC := .block 0 ir79_10
def ir79_12 : IC := .seq ir79_r1 ir79_11
def ir79_r7 : IC := .reg [⟨some 4, none, false, .mv (.k (.int .i64 (-1)))⟩] (some [4])
def ir79_13 : IC := .seq ir79_r7 .ret
def ir79_14 : IC := .seq ir79_12 ir79_13
def ir79_15 : IC := .seq ir79_r0 ir79_14
def ir79 : IC := ir79_15
theorem fn79 : FnIs Try.prog 79 ir79 19 [.tmp 4] := ⟨Try.f79, Try.f79.body.getD .skip, Try.func79, by kernel_rfl, by kernel_rfl, by kernel_rfl, by kernel_rfl⟩
/- slices.ContainsFunc[[]int,int] · slots 9 · names 0:s 1:f 2:s 3:f · results [4] -/
def ir73_r0 : IC := .reg [⟨some 4, none, false, .mv (.k (.bool false))⟩] (some [0, 1])
def ir73_r1 : IC := .reg [⟨some 5, none, false, .mv (.t 0)⟩,
  ⟨some 6, none, false, .mv (.t 1)⟩,
  ⟨some 7, none, false, .call (.f 79) [(.t 5), (.t 6)]⟩,
  ⟨some 8, none, false, .cmp .geq (.t 7) (.k (.int .i64 0))⟩,
  ⟨some 4, none, false, .mv (.t 8)⟩] (some [4])
def ir73_1 : IC := .seq ir73_r1 .ret
def ir73_2 : IC := .seq ir73_r0 ir73_1
def ir73 : IC := ir73_2
theorem fn73 : FnIs Try.prog 73 ir73 9 [.tmp 4] := ⟨Try.f73, Try.f73.body.getD .skip, Try.func73, by kernel_rfl, by kernel_rfl, by kernel_rfl, by kernel_rfl⟩
/- slices.IndexFunc[[]boule/api.Range,boule/api.Range] · slots 19 · names 0:s 1:f 2:s 3:f 5:i · results [4] -/
def ir75_r0 : IC := .reg [⟨some 4, none, false, .mv (.k (.int .i64 0))⟩] (some [0, 1])
def ir75_r1 : IC := .reg [⟨some 6, none, false, .mv (.t 0)⟩,
  ⟨some 7, none, false, .len (.t 6)⟩,
  ⟨some 8, none, false, .mv (.k (.int .i64 0))⟩] (some [0, 1, 7, 8])
def ir75_r2 : IC := .reg [⟨some 9, none, false, .cmp .lss (.t 8) (.t 7)⟩] (some [0, 1, 7, 8, 9])
def ir75_1 : IC := .cond (.t 9) .skip (.exit 0)
def ir75_r3 : IC := .reg [⟨some 10, none, false, .mv (.t 8)⟩,
  ⟨some 5, none, false, .mv (.t 10)⟩] (some [0, 1, 5, 7, 8])
def ir75_r4 : IC := .reg [⟨some 11, none, false, .mv (.t 1)⟩,
  ⟨some 12, none, false, .mv (.t 0)⟩,
  ⟨some 13, none, false, .mv (.t 5)⟩,
  ⟨some 14, none, false, .iad 2 (.t 12) (.t 13)⟩,
  ⟨some 15, none, false, .lda 2 (.t 14)⟩,
  ⟨some 16, none, false, .call (.t 11) [(.t 15)]⟩] (some [0, 1, 5, 7, 8, 16])
def ir75_r5 : IC := .reg [⟨some 17, none, false, .mv (.t 5)⟩,
  ⟨some 4, none, false, .mv (.t 17)⟩] (some [4])
def ir75_2 : IC := .seq ir75_r5 .ret
def ir75_3 : IC := .cond (.t 16) ir75_2 .skip
def ir75_4 : IC := .seq ir75_r4 ir75_3
def ir75_5 : IC := .seq ir75_r3 ir75_4
def ir75_6 : IC := .block 1 ir75_5
def ir75_r6 : IC := .reg [⟨some 18, none, false, .ar .add (.t 8) (.k (.int .i64 1))⟩,
  ⟨some 8, none, false, .mv (.t 18)⟩] (some [0, 1, 7, 8])
def ir75_7 : IC := .seq ir75_6 ir75_r6
def ir75_8 : IC := .seq ir75_1 ir75_7
def ir75_9 : IC := .seq ir75_r2 ir75_8
def ir75_10 : IC := .loop ir75_9
def ir75_11 : IC := .block 0 ir75_10
def ir75_12 : IC := .seq ir75_r1 ir75_11
def ir75_r7 : IC := .reg [⟨some 4, none, false, .mv (.k (.int .i64 (-1)))⟩] (some [4])
def ir75_13 : IC := .seq ir75_r7 .ret
def ir75_14 : IC := .seq ir75_12 ir75_13
def ir75_15 : IC := .seq ir75_r0 ir75_14
def ir75 : IC := ir75_15
theorem fn75 : FnIs Try.prog 75 ir75 19 [.tmp 4] := ⟨Try.f75, Try.f75.body.getD .skip, Try.func75, by kernel_rfl, by kernel_rfl, by kernel_rfl, by kernel_rfl⟩
/- slices.ContainsFunc[[]boule/api.Range,boule/api.Range] · slots 9 · names 0:s 1:f 2:s 3:f · results [4] -/
def ir63_r0 : IC := .reg [⟨some 4, none, false, .mv (.k (.bool false))⟩] (some [0, 1])
def ir63_r1 : IC := .reg [⟨some 5, none, false, .mv (.t 0)⟩,
  ⟨some 6, none, false, .mv (.t 1)⟩,
  ⟨some 7, none, false, .call (.f 75) [(.t 5), (.t 6)]⟩,
  ⟨some 8, none, false, .cmp .geq (.t 7) (.k (.int .i64 0))⟩,
  ⟨some 4, none, false, .mv (.t 8)⟩] (some [4])
def ir63_1 : IC := .seq ir63_r1 .ret
def ir63_2 : IC := .seq ir63_r0 ir63_1
def ir63 : IC := ir63_2
theorem fn63 : FnIs Try.prog 63 ir63 9 [.tmp 4] := ⟨Try.f63, Try.f63.body.getD .skip, Try.func63, by kernel_rfl, by kernel_rfl, by kernel_rfl, by kernel_rfl⟩
theorem takeII {xs : List (Int × Int)} {i : Nat} (hi : i < xs.length) : takeC (rows eII xs) (i * 2) 2 = some [.int .i64 (nth xs i).1, .int .i64 (nth xs i).2] := rows_takeC (f := eII) hi
abbrev fB (g k : Nat) : Value := .func (.func g) #[] #[pt k]
abbrev BM (bs cs : List Value) : AH := Hp 3 [none, some (.cells ⟨bs, 0, false⟩), some (.cells ⟨cs, 0, false⟩)]
/-- A function of a slice and a closure over a box, lifted. -/
theorem liftB {f g n : Nat} {bs cs : List Value} {v : Value} (hv : noAddr v = true) (F : ∀ c, Fc Try.prog f [.slice (some ⟨2, 0, none⟩) n c, fB g 1] (BM bs cs) v (BM bs cs)) (hbs : noAddrL bs = true) (hcs : noAddrL cs = true) {h : AH} {s : Value} {kb sz : Nat} {op : Bool} (h0 : h.sees 0 = true) (hg : h.get kb = some (.cells ⟨bs, sz, op⟩)) (r : Rd h s n cs) :
    Fc Try.prog f [s, fB g kb] h v h := by
  obtain ⟨p, c, rfl, r, hp⟩ := r
  refine Fc.frameL (Lc := [none, some (.cells ⟨bs, 0, false⟩), some (.cells ⟨cs, 0, false⟩)]) (os := []) (F c) [(0, 0, false), (kb, 0, false), p] rfl ⟨fr_none h0, fr_rd (p := (kb, 0, false)) (n := n) rfl ⟨get_sees hg, _, hg, ⟨[], by simp⟩, fun _ => Nat.zero_le _⟩ hbs, fr_rd rfl r hcs, trivial⟩ ?_ (okM_noAddr _ _ _ hv) (fun o ho => by cases ho) ?_ (mw_noAddr _ _ hv) rfl
  · refine ⟨okM_sl rfl (show 2 < 3 by decide) r hp, ⟨trivial, trivial, ?_⟩, trivial⟩
    exact ⟨⟨show 1 < 3 by decide, trivial⟩, trivial⟩
  · show mw _ _ :: _ = _
    rw [mw_sl rfl]
    rfl
theorem indexB_f (g : Nat) (p : Int → Bool) (bs : List Value) (hbs : noAddrL bs = true) (xs : List Int) (n : Nat) (HG : ∀ x, Fc Try.prog g [.int .i64 x, pt 1] (BM bs (rows eI xs)) (.bool (p x)) (BM bs (rows eI xs))) (hn : xs.length = n) (hb : n ≤ 1000000) {h : AH} {s : Value} {kb sz : Nat} {op : Bool} (h0 : h.sees 0 = true) (hg : h.get kb = some (.cells ⟨bs, sz, op⟩)) (r : Rd h s n (rows eI xs)) :
    Fc Try.prog 79 [s, fB g kb] h (.int .i64 (idxF p xs)) h := by
  refine liftB rfl (fun c => ?_) hbs (rows_no (f := eI) xs) h0 hg r
  refine Fc.intro0 fn79 (by simp) rfl rfl ?_; simp only [argF, List.cons_append, List.nil_append]
  refine ITri.seq ?_
  refine ITri.reg pok ?_; simp -implicitDefEqProofs (disch := first | decide | exact of_eq_true (eq_true rfl) | omega | assumption) only [ ↓vcD, vcE, ↓vcG, vcF, evs, evP, evB, intsOf, fillC, Value.cells, pt, Value.oneCell', reduceIte, reduceCtorEq, Nat.reduceEqDiff, Nat.reduceAdd, Nat.reduceMul, Nat.reduceLT, Nat.reduceBEq, Nat.reduceLeDiff, Nat.reduceSub] -- r0 slices.go:107
  refine ITri.seq ?_
  refine ITri.seq ?_
  refine ITri.reg pok ?_; simp -implicitDefEqProofs (disch := first | decide | exact of_eq_true (eq_true rfl) | omega | assumption) only [ ↓vcD, vcE, ↓vcG, vcF, evs, evP, evB, intsOf, fillC, Value.cells, pt, Value.oneCell', reduceIte, reduceCtorEq, Nat.reduceEqDiff, Nat.reduceAdd, Nat.reduceMul, Nat.reduceLT, Nat.reduceBEq, Nat.reduceLeDiff, Nat.reduceSub] -- r1
  refine ITri.block ?_
  refine ITri.loop (fun k : Nat => [(0, .slice (some ⟨2, 0, none⟩) n c), (1, fB g 1), (7, .int .i64 n), (8, .int .i64 k)]) (fun _ => []) (fun k => BM bs (rows eI xs)) (fun k => k ≤ n ∧ ∀ j, j < k → p (nth xs j) = false) (fun k => n - k) 0 ⟨Nat.zero_le _, fun j hj => by omega⟩ (Wk.sub ⟨rfl, rfl, rfl, rfl, trivial⟩) fun k hk => ?_
  obtain ⟨hk, hj⟩ := hk
  refine ITri.seq ?_
  refine ITri.reg pok ?_; simp -implicitDefEqProofs (disch := first | decide | exact of_eq_true (eq_true rfl) | omega | assumption) only [ ↓vcD, vcE, ↓vcG, vcF, evs, evP, evB, intsOf, fillC, Value.cells, pt, Value.oneCell', reduceIte, reduceCtorEq, Nat.reduceEqDiff, Nat.reduceAdd, Nat.reduceMul, Nat.reduceLT, Nat.reduceBEq, Nat.reduceLeDiff, Nat.reduceSub]
  refine ITri.seq ?_
  refine ITri.condD (by rfl) (fun h1 => ?_) (fun h1 => ?_)
  · have h2 : k < n := by omega
    refine ITri.skip ?_; simp only [SeqQ_normal, BlkQ_normal]
    refine ITri.seq ?_
    refine ITri.block ?_
    refine ITri.seq ?_
    refine ITri.reg pok ?_; simp -implicitDefEqProofs (disch := first | decide | exact of_eq_true (eq_true rfl) | omega | assumption) only [ ↓vcD, vcE, ↓vcG, vcF, evs, evP, evB, intsOf, fillC, Value.cells, pt, Value.oneCell', reduceIte, reduceCtorEq, Nat.reduceEqDiff, Nat.reduceAdd, Nat.reduceMul, Nat.reduceLT, Nat.reduceBEq, Nat.reduceLeDiff, Nat.reduceSub]
    refine ITri.seq ?_
    refine ITri.reg pok ?_; simp -implicitDefEqProofs (disch := first | decide | exact of_eq_true (eq_true rfl) | omega | assumption) only [getI,  ↓vcD, vcE, ↓vcG, vcF, evs, evP, evB, intsOf, fillC, Value.cells, pt, Value.oneCell', reduceIte, reduceCtorEq, Nat.reduceEqDiff, Nat.reduceAdd, Nat.reduceMul, Nat.reduceLT, Nat.reduceBEq, Nat.reduceLeDiff, Nat.reduceSub]
    refine ⟨_, _, HG _, ?_⟩
    try simp -implicitDefEqProofs (disch := first | decide | exact of_eq_true (eq_true rfl) | omega | assumption) only [ ↓vcD, vcE, ↓vcG, vcF, evs, evP, evB, intsOf, fillC, Value.cells, pt, Value.oneCell', reduceIte, reduceCtorEq, Nat.reduceEqDiff, Nat.reduceAdd, Nat.reduceMul, Nat.reduceLT, Nat.reduceBEq, Nat.reduceLeDiff, Nat.reduceSub]
    refine ITri.cond (by rfl) (fun h3 => ?_) (fun h3 => ?_)
    · refine ITri.seq ?_
      refine ITri.reg pok ?_; simp -implicitDefEqProofs (disch := first | decide | exact of_eq_true (eq_true rfl) | omega | assumption) only [ ↓vcD, vcE, ↓vcG, vcF, evs, evP, evB, intsOf, fillC, Value.cells, pt, Value.oneCell', reduceIte, reduceCtorEq, Nat.reduceEqDiff, Nat.reduceAdd, Nat.reduceMul, Nat.reduceLT, Nat.reduceBEq, Nat.reduceLeDiff, Nat.reduceSub]
      refine ITri.ret ?_; exact EndR.plain (by simp) (by rfl) (by rw [idxF_some (by omega) h3 hj]; rfl) (by rfl)
    refine ITri.skip ?_; simp only [SeqQ_normal, BlkQ_normal]
    refine ITri.reg pok ?_; simp -implicitDefEqProofs (disch := first | decide | exact of_eq_true (eq_true rfl) | omega | assumption) only [ ↓vcD, vcE, ↓vcG, vcF, evs, evP, evB, intsOf, fillC, Value.cells, pt, Value.oneCell', reduceIte, reduceCtorEq, Nat.reduceEqDiff, Nat.reduceAdd, Nat.reduceMul, Nat.reduceLT, Nat.reduceBEq, Nat.reduceLeDiff, Nat.reduceSub]
    refine LoopQ.next (k + 1) ⟨by omega, fun j hj2 => ?_⟩ (by omega) (Wk.sub ⟨rfl, rfl, rfl, rfl, trivial⟩)
    rcases Nat.lt_or_ge j k with q | q
    · exact hj j q
    · obtain rfl : j = k := by omega
      exact h3
  refine ITri.exit ?_; try simp -implicitDefEqProofs (disch := first | decide | exact of_eq_true (eq_true rfl) | omega | assumption) only [ ↓vcD, vcE, ↓vcG, vcF, evs, evP, evB, intsOf, fillC, Value.cells, pt, Value.oneCell', reduceIte, reduceCtorEq, Nat.reduceEqDiff, Nat.reduceAdd, Nat.reduceMul, Nat.reduceLT, Nat.reduceBEq, Nat.reduceLeDiff, Nat.reduceSub]
  obtain rfl : n = k := by omega
  refine ITri.seq ?_
  refine ITri.reg pok ?_; simp -implicitDefEqProofs (disch := first | decide | exact of_eq_true (eq_true rfl) | omega | assumption) only [ ↓vcD, vcE, ↓vcG, vcF, evs, evP, evB, intsOf, fillC, Value.cells, pt, Value.oneCell', reduceIte, reduceCtorEq, Nat.reduceEqDiff, Nat.reduceAdd, Nat.reduceMul, Nat.reduceLT, Nat.reduceBEq, Nat.reduceLeDiff, Nat.reduceSub]
  refine ITri.ret ?_; exact EndR.plain (by simp) (by rfl) (by rw [idxF_none (any_before hn hj)]; rfl) (by rfl)
theorem containsB_f (g : Nat) (p : Int → Bool) (bs : List Value) (hbs : noAddrL bs = true) (xs : List Int) (n : Nat) (HG : ∀ x, Fc Try.prog g [.int .i64 x, pt 1] (BM bs (rows eI xs)) (.bool (p x)) (BM bs (rows eI xs))) (hn : xs.length = n) (hb : n ≤ 1000000) {h : AH} {s : Value} {kb sz : Nat} {op : Bool} (h0 : h.sees 0 = true) (hg : h.get kb = some (.cells ⟨bs, sz, op⟩)) (r : Rd h s n (rows eI xs)) :
    Fc Try.prog 73 [s, fB g kb] h (.bool (xs.any p)) h := by
  refine liftB rfl (fun c => ?_) hbs (rows_no (f := eI) xs) h0 hg r
  refine Fc.intro0 fn73 (by simp) rfl rfl ?_; simp only [argF, List.cons_append, List.nil_append]
  refine ITri.seq ?_
  refine ITri.reg pok ?_; simp -implicitDefEqProofs (disch := first | decide | exact of_eq_true (eq_true rfl) | omega | assumption) only [ ↓vcD, vcE, ↓vcG, vcF, evs, evP, evB, intsOf, fillC, Value.cells, pt, Value.oneCell', reduceIte, reduceCtorEq, Nat.reduceEqDiff, Nat.reduceAdd, Nat.reduceMul, Nat.reduceLT, Nat.reduceBEq, Nat.reduceLeDiff, Nat.reduceSub]
  refine ITri.seq ?_
  refine ITri.reg pok ?_; simp -implicitDefEqProofs (disch := first | decide | exact of_eq_true (eq_true rfl) | omega | assumption) only [ ↓vcD, vcE, ↓vcG, vcF, evs, evP, evB, intsOf, fillC, Value.cells, pt, Value.oneCell', reduceIte, reduceCtorEq, Nat.reduceEqDiff, Nat.reduceAdd, Nat.reduceMul, Nat.reduceLT, Nat.reduceBEq, Nat.reduceLeDiff, Nat.reduceSub]
  refine ⟨_, _, indexB_f g p bs hbs xs n HG hn hb (sees0 rfl (of_decide_eq_true rfl)) (get_hq rfl rfl) (Rd.hq rfl rfl), ?_⟩
  try simp -implicitDefEqProofs (disch := first | decide | exact of_eq_true (eq_true rfl) | omega | assumption) only [ ↓vcD, vcE, ↓vcG, vcF, evs, evP, evB, intsOf, fillC, Value.cells, pt, Value.oneCell', reduceIte, reduceCtorEq, Nat.reduceEqDiff, Nat.reduceAdd, Nat.reduceMul, Nat.reduceLT, Nat.reduceBEq, Nat.reduceLeDiff, Nat.reduceSub]
  refine ITri.ret ?_; exact EndR.plain (by simp) (by rfl) (by rw [idxF_any]; rfl) (by rfl)


theorem indexRB_f (g : Nat) (p : Int × Int → Bool) (bs : List Value) (hbs : noAddrL bs = true) (xs : List (Int × Int)) (n : Nat) (HG : ∀ x : Int × Int, Fc Try.prog g [.agg #[.int .i64 x.1, .int .i64 x.2], pt 1] (BM bs (rows eII xs)) (.bool (p x)) (BM bs (rows eII xs))) (hn : xs.length = n) (hb : n ≤ 1000000) {h : AH} {s : Value} {kb sz : Nat} {op : Bool} (h0 : h.sees 0 = true) (hg : h.get kb = some (.cells ⟨bs, sz, op⟩)) (r : Rd h s n (rows eII xs)) :
    Fc Try.prog 75 [s, fB g kb] h (.int .i64 (idxF p xs)) h := by
  refine liftB rfl (fun c => ?_) hbs (rows_no (f := eII) xs) h0 hg r
  refine Fc.intro0 fn75 (by simp) rfl rfl ?_; simp only [argF, List.cons_append, List.nil_append]
  refine ITri.seq ?_
  refine ITri.reg pok ?_; simp -implicitDefEqProofs (disch := first | decide | exact of_eq_true (eq_true rfl) | omega | assumption) only [ ↓vcD, vcE, ↓vcG, vcF, evs, evP, evB, intsOf, fillC, Value.cells, pt, Value.oneCell', reduceIte, reduceCtorEq, Nat.reduceEqDiff, Nat.reduceAdd, Nat.reduceMul, Nat.reduceLT, Nat.reduceBEq, Nat.reduceLeDiff, Nat.reduceSub] -- r0 slices.go:107
  refine ITri.seq ?_
  refine ITri.seq ?_
  refine ITri.reg pok ?_; simp -implicitDefEqProofs (disch := first | decide | exact of_eq_true (eq_true rfl) | omega | assumption) only [ ↓vcD, vcE, ↓vcG, vcF, evs, evP, evB, intsOf, fillC, Value.cells, pt, Value.oneCell', reduceIte, reduceCtorEq, Nat.reduceEqDiff, Nat.reduceAdd, Nat.reduceMul, Nat.reduceLT, Nat.reduceBEq, Nat.reduceLeDiff, Nat.reduceSub] -- r1
  refine ITri.block ?_
  refine ITri.loop (fun k : Nat => [(0, .slice (some ⟨2, 0, none⟩) n c), (1, fB g 1), (7, .int .i64 n), (8, .int .i64 k)]) (fun _ => []) (fun k => BM bs (rows eII xs)) (fun k => k ≤ n ∧ ∀ j, j < k → p (nth xs j) = false) (fun k => n - k) 0 ⟨Nat.zero_le _, fun j hj => by omega⟩ (Wk.sub ⟨rfl, rfl, rfl, rfl, trivial⟩) fun k hk => ?_
  obtain ⟨hk, hj⟩ := hk
  refine ITri.seq ?_
  refine ITri.reg pok ?_; simp -implicitDefEqProofs (disch := first | decide | exact of_eq_true (eq_true rfl) | omega | assumption) only [ ↓vcD, vcE, ↓vcG, vcF, evs, evP, evB, intsOf, fillC, Value.cells, pt, Value.oneCell', reduceIte, reduceCtorEq, Nat.reduceEqDiff, Nat.reduceAdd, Nat.reduceMul, Nat.reduceLT, Nat.reduceBEq, Nat.reduceLeDiff, Nat.reduceSub]
  refine ITri.seq ?_
  refine ITri.condD (by rfl) (fun h1 => ?_) (fun h1 => ?_)
  · have h2 : k < n := by omega
    refine ITri.skip ?_; simp only [SeqQ_normal, BlkQ_normal]
    refine ITri.seq ?_
    refine ITri.block ?_
    refine ITri.seq ?_
    refine ITri.reg pok ?_; simp -implicitDefEqProofs (disch := first | decide | exact of_eq_true (eq_true rfl) | omega | assumption) only [ ↓vcD, vcE, ↓vcG, vcF, evs, evP, evB, intsOf, fillC, Value.cells, pt, Value.oneCell', reduceIte, reduceCtorEq, Nat.reduceEqDiff, Nat.reduceAdd, Nat.reduceMul, Nat.reduceLT, Nat.reduceBEq, Nat.reduceLeDiff, Nat.reduceSub]
    refine ITri.seq ?_
    refine ITri.reg pok ?_; simp -implicitDefEqProofs (disch := first | decide | exact of_eq_true (eq_true rfl) | omega | assumption) only [takeII,  ↓vcD, vcE, ↓vcG, vcF, evs, evP, evB, intsOf, fillC, Value.cells, pt, Value.oneCell', reduceIte, reduceCtorEq, Nat.reduceEqDiff, Nat.reduceAdd, Nat.reduceMul, Nat.reduceLT, Nat.reduceBEq, Nat.reduceLeDiff, Nat.reduceSub]
    refine ⟨_, _, HG _, ?_⟩
    try simp -implicitDefEqProofs (disch := first | decide | exact of_eq_true (eq_true rfl) | omega | assumption) only [ ↓vcD, vcE, ↓vcG, vcF, evs, evP, evB, intsOf, fillC, Value.cells, pt, Value.oneCell', reduceIte, reduceCtorEq, Nat.reduceEqDiff, Nat.reduceAdd, Nat.reduceMul, Nat.reduceLT, Nat.reduceBEq, Nat.reduceLeDiff, Nat.reduceSub]
    refine ITri.cond (by rfl) (fun h3 => ?_) (fun h3 => ?_)
    · refine ITri.seq ?_
      refine ITri.reg pok ?_; simp -implicitDefEqProofs (disch := first | decide | exact of_eq_true (eq_true rfl) | omega | assumption) only [ ↓vcD, vcE, ↓vcG, vcF, evs, evP, evB, intsOf, fillC, Value.cells, pt, Value.oneCell', reduceIte, reduceCtorEq, Nat.reduceEqDiff, Nat.reduceAdd, Nat.reduceMul, Nat.reduceLT, Nat.reduceBEq, Nat.reduceLeDiff, Nat.reduceSub]
      refine ITri.ret ?_; exact EndR.plain (by simp) (by rfl) (by rw [idxF_some (by omega) h3 hj]; rfl) (by rfl)
    refine ITri.skip ?_; simp only [SeqQ_normal, BlkQ_normal]
    refine ITri.reg pok ?_; simp -implicitDefEqProofs (disch := first | decide | exact of_eq_true (eq_true rfl) | omega | assumption) only [ ↓vcD, vcE, ↓vcG, vcF, evs, evP, evB, intsOf, fillC, Value.cells, pt, Value.oneCell', reduceIte, reduceCtorEq, Nat.reduceEqDiff, Nat.reduceAdd, Nat.reduceMul, Nat.reduceLT, Nat.reduceBEq, Nat.reduceLeDiff, Nat.reduceSub]
    refine LoopQ.next (k + 1) ⟨by omega, fun j hj2 => ?_⟩ (by omega) (Wk.sub ⟨rfl, rfl, rfl, rfl, trivial⟩)
    rcases Nat.lt_or_ge j k with q | q
    · exact hj j q
    · obtain rfl : j = k := by omega
      exact h3
  refine ITri.exit ?_; try simp -implicitDefEqProofs (disch := first | decide | exact of_eq_true (eq_true rfl) | omega | assumption) only [ ↓vcD, vcE, ↓vcG, vcF, evs, evP, evB, intsOf, fillC, Value.cells, pt, Value.oneCell', reduceIte, reduceCtorEq, Nat.reduceEqDiff, Nat.reduceAdd, Nat.reduceMul, Nat.reduceLT, Nat.reduceBEq, Nat.reduceLeDiff, Nat.reduceSub]
  obtain rfl : n = k := by omega
  refine ITri.seq ?_
  refine ITri.reg pok ?_; simp -implicitDefEqProofs (disch := first | decide | exact of_eq_true (eq_true rfl) | omega | assumption) only [ ↓vcD, vcE, ↓vcG, vcF, evs, evP, evB, intsOf, fillC, Value.cells, pt, Value.oneCell', reduceIte, reduceCtorEq, Nat.reduceEqDiff, Nat.reduceAdd, Nat.reduceMul, Nat.reduceLT, Nat.reduceBEq, Nat.reduceLeDiff, Nat.reduceSub]
  refine ITri.ret ?_; exact EndR.plain (by simp) (by rfl) (by rw [idxF_none (any_before hn hj)]; rfl) (by rfl)
theorem containsRB_f (g : Nat) (p : Int × Int → Bool) (bs : List Value) (hbs : noAddrL bs = true) (xs : List (Int × Int)) (n : Nat) (HG : ∀ x : Int × Int, Fc Try.prog g [.agg #[.int .i64 x.1, .int .i64 x.2], pt 1] (BM bs (rows eII xs)) (.bool (p x)) (BM bs (rows eII xs))) (hn : xs.length = n) (hb : n ≤ 1000000) {h : AH} {s : Value} {kb sz : Nat} {op : Bool} (h0 : h.sees 0 = true) (hg : h.get kb = some (.cells ⟨bs, sz, op⟩)) (r : Rd h s n (rows eII xs)) :
    Fc Try.prog 63 [s, fB g kb] h (.bool (xs.any p)) h := by
  refine liftB rfl (fun c => ?_) hbs (rows_no (f := eII) xs) h0 hg r
  refine Fc.intro0 fn63 (by simp) rfl rfl ?_; simp only [argF, List.cons_append, List.nil_append]
  refine ITri.seq ?_
  refine ITri.reg pok ?_; simp -implicitDefEqProofs (disch := first | decide | exact of_eq_true (eq_true rfl) | omega | assumption) only [ ↓vcD, vcE, ↓vcG, vcF, evs, evP, evB, intsOf, fillC, Value.cells, pt, Value.oneCell', reduceIte, reduceCtorEq, Nat.reduceEqDiff, Nat.reduceAdd, Nat.reduceMul, Nat.reduceLT, Nat.reduceBEq, Nat.reduceLeDiff, Nat.reduceSub]
  refine ITri.seq ?_
  refine ITri.reg pok ?_; simp -implicitDefEqProofs (disch := first | decide | exact of_eq_true (eq_true rfl) | omega | assumption) only [ ↓vcD, vcE, ↓vcG, vcF, evs, evP, evB, intsOf, fillC, Value.cells, pt, Value.oneCell', reduceIte, reduceCtorEq, Nat.reduceEqDiff, Nat.reduceAdd, Nat.reduceMul, Nat.reduceLT, Nat.reduceBEq, Nat.reduceLeDiff, Nat.reduceSub]
  refine ⟨_, _, indexRB_f g p bs hbs xs n HG hn hb (sees0 rfl (of_decide_eq_true rfl)) (get_hq rfl rfl) (Rd.hq rfl rfl), ?_⟩
  try simp -implicitDefEqProofs (disch := first | decide | exact of_eq_true (eq_true rfl) | omega | assumption) only [ ↓vcD, vcE, ↓vcG, vcF, evs, evP, evB, intsOf, fillC, Value.cells, pt, Value.oneCell', reduceIte, reduceCtorEq, Nat.reduceEqDiff, Nat.reduceAdd, Nat.reduceMul, Nat.reduceLT, Nat.reduceBEq, Nat.reduceLeDiff, Nat.reduceSub]
  refine ITri.ret ?_; exact EndR.plain (by simp) (by rfl) (by rw [idxF_any]; rfl) (by rfl)
end Go.Proofs.Yteddklolpcpjaaa
