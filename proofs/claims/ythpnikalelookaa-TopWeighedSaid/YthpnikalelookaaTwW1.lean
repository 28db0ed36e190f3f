/-
  TopWeighed, first walks: what is a number, products, quotients, ranges (chapter 1).
-/
import Derived.Test.YthpnikalelookaaProg
import Derived.Test.YthpnikalelookaaTwPure
import Derived.BigQuiet
import Derived.Deep.QuietTactic
import Derived.Laws.Bits64b
import Derived.IntWalk
namespace Go.Proofs.Ythpnikalelookaa
open Go.RowKit

/-- A function that has a body. -/
def Enters (g : Nat) : Prop := ((Try.prog.funcs[g]?).map fun fn => (fn.name == "runtime.NumGoroutine", fn.body.isNone)) = some (false, false)
theorem Enters.run {g : Nat} (h : Enters g) (args : Array Value) (w : World) : Sem.run Try.prog (callFunc g args) w = .ok (.enter g args) w := by
  unfold Enters at h
  cases hf : Try.prog.funcs[g]? with
  | none => rw [hf] at h; cases h
  | some fn =>
    rw [hf] at h
    simp only [Option.map_some, Option.some.injEq, Prod.mk.injEq] at h
    have h1 : ¬ fn.name = "runtime.NumGoroutine" := by simpa using h.1
    have h2 : fn.body ≠ none := by intro h0; rw [h0] at h; cases h.2
    simp [callFunc, hf, h1, h2]

/-- What a predicate answers that is called from IndexFunc. -/
def Pred {α : Type} (val : α → Value) (g : Nat) (p : α → Bool) : Prop := Enters g ∧ ∀ (x : α) (w : World), Calls Try.prog g #[val x] w fun e w' => e = .returned (.bool (p x)) ∧ Below w.heap.size w w'

set_option maxHeartbeats 400000 in
theorem isOne_any : Pred (fun x : Int => .int .i64 x) 45 farB := by
  refine ⟨by unfold Enters; kernel_rfl, fun x w => ?_⟩
  by_cases h : x < -1000000000000000
  · by_cases h2 : 1000000000000000 < x
    all_goals
      go_enter Try.func45, Try.ntmps45
      go_wp2
      go_ret
      exact ⟨ret_bool (by simp [farB, h]), Below.refl _ _⟩
  · have hd : decide (x < -1000000000000000) = false := by simpa using h
    go_enter Try.func45, Try.ntmps45
    go_wp2
    go_ret
    exact ⟨ret_bool (by rw [farB, hd]; rfl), Below.refl _ _⟩

set_option maxHeartbeats 400000 in
theorem brokenOne_any : Pred (fun x : Int => .int .i64 x) 40 (fun x => decide (x < 0)) := by
  refine ⟨by unfold Enters; kernel_rfl, fun x w => ?_⟩
  go_enter Try.func40, Try.ntmps40
  go_wp2
  go_ret
  exact ⟨ret_bool rfl, Below.refl _ _⟩

/-- The first place at which a predicate answers true, or -1. -/
def idxF {α : Type} (p : α → Bool) (l : List α) : Int := match l.findIdx? p with | some i => i | none => -1
theorem idxF_at {α : Type} {p : α → Bool} {l : List α} {k : Nat} {x : α} (h : (l.take k).any p = false) (hx : l[k]? = some x) (hp : p x = true) : idxF p l = k := by
  have : l.findIdx? p = some k := by
    have hk : k < l.length := (List.getElem?_eq_some_iff.1 hx).1
    have hx2 : l[k] = x := (List.getElem?_eq_some_iff.1 hx).2
    rw [List.findIdx?_eq_some_iff_getElem]
    refine ⟨hk, by rw [hx2]; exact hp, fun j hj => ?_⟩
    have := any_at_f h (k := j) (x := l[j]) (by rw [List.getElem?_take, if_pos hj]; exact List.getElem?_eq_getElem _)
    simp [this]
  unfold idxF; rw [this]
theorem idxF_none {α : Type} {p : α → Bool} {l : List α} (h : l.any p = false) : idxF p l = -1 := by
  have : l.findIdx? p = none := by
    rw [List.findIdx?_eq_none_iff]
    intro x hx
    rw [List.any_eq_false] at h
    simpa using h x hx
  unfold idxF; rw [this]
theorem idxF_any {α : Type} (p : α → Bool) (l : List α) : decide (0 ≤ idxF p l) = l.any p := by
  cases h : l.any p
  · rw [idxF_none h]; rfl
  · unfold idxF
    cases hf : l.findIdx? p with
    | none =>
      rw [List.findIdx?_eq_none_iff] at hf
      rw [List.any_eq_true] at h
      obtain ⟨x, hx, hp⟩ := h
      rw [hf x hx] at hp; cases hp
    | some i => simp

set_option maxHeartbeats 400000 in
theorem indexI_any {g : Nat} {p : Int → Bool} (hp : Pred (fun x : Int => .int .i64 x) g p) (A : Option Addr) (n cap B : Nat) (l : List Int) (w : World) (h : Sl eI 1 w B A n l) (hB : B ≤ w.heap.size) (hl : n ≤ 1000000) :
    Calls Try.prog 39 #[.slice A n cap, .func (.func g) #[] #[]] w fun e w' => e = .returned (.int .i64 (idxF p l)) ∧ Below w.heap.size w w' := by
  go_enter Try.func39, Try.ntmps39
  go_wp2
  go_loopw [8] (fun i wr => ∃ k : Nat, k ≤ n ∧ i = .int .i64 k ∧ (l.take k).any p = false ∧ Below w.heap.size w wr) (fun i _ => n - (intOf i).toNat)
  case atStart => exact ⟨0, Nat.zero_le _, rfl, rfl, Below.refl _ _⟩
  case round =>
    obtain ⟨k, hk, rfl, hany, hbl⟩ := hrel
    have HA := Lib.hid hany
    clear hany
    by_cases hlt : k < n
    · obtain ⟨x, hx⟩ := h.get hlt
      obtain ⟨b, off, rfl, hb, c1⟩ := (h.below (hbl.mono hB)).at1 hx
      have HX := Lib.hid hx
      clear hx
      cases hbad : p x
      · have HB := Lib.hid hbad
        clear hbad
        go_wp2_with fail
        rw [hp.1.run, Oper.upon_enter]
        refine (hp.2 _ _).mono ?_
        rintro e w' ⟨rfl, hb1⟩
        rw [HB.out]
        go_wp2
        go_roundw
        case rel => exact ⟨k + 1, by omega, by go_num, by rw [take_snoc HX.out, List.any_append, HA.out]; simp [HB.out], hbl.trans (hb1.mono hbl.size)⟩
        case measure => simp [intOf]; omega
      · have HB := Lib.hid hbad
        clear hbad
        go_wp2_with fail
        rw [hp.1.run, Oper.upon_enter]
        refine (hp.2 _ _).mono ?_
        rintro e w' ⟨rfl, hb1⟩
        rw [HB.out]
        go_wp2
        go_ret
        exact ⟨ret_int (idxF_at HA.out HX.out HB.out).symm, hbl.trans (hb1.mono hbl.size)⟩
    · go_wp2
      go_ret
      have ht : l.take k = l := List.take_of_length_le (by have := h.len; omega)
      exact ⟨ret_int (idxF_none (ht ▸ HA.out)).symm, hbl⟩

def vR (r : Int × Int) : Value := .agg #[.int .i64 r.1, .int .i64 r.2]
def vL (x : LotP) : Value := .agg #[.int .i64 x.cnt, .int .i64 x.mass, .int .i64 x.l0, .int .i64 x.h0, .int .i64 x.l1, .int .i64 x.h1, .int .i64 x.l2, .int .i64 x.h2, .int .i64 x.cost]

set_option maxHeartbeats 400000 in
theorem indexR_any {g : Nat} {p : (Int × Int) → Bool} (hp : Pred vR g p) (A : Option Addr) (n cap B : Nat) (l : List (Int × Int)) (w : World) (h : Sl eII 2 w B A n l) (hB : B ≤ w.heap.size) (hl : n ≤ 1000000) :
    Calls Try.prog 43 #[.slice A n cap, .func (.func g) #[] #[]] w fun e w' => e = .returned (.int .i64 (idxF p l)) ∧ Below w.heap.size w w' := by
  go_enter Try.func43, Try.ntmps43
  go_wp2
  go_loopw [8] (fun i wr => ∃ k : Nat, k ≤ n ∧ i = .int .i64 k ∧ (l.take k).any p = false ∧ Below w.heap.size w wr) (fun i _ => n - (intOf i).toNat)
  case atStart => exact ⟨0, Nat.zero_le _, rfl, rfl, Below.refl _ _⟩
  case round =>
    obtain ⟨k, hk, rfl, hany, hbl⟩ := hrel
    have HA := Lib.hid hany
    clear hany
    by_cases hlt : k < n
    · obtain ⟨x, hx⟩ := h.get hlt
      obtain ⟨b, off, rfl, hb, c1, c2⟩ := (h.below (hbl.mono hB)).at2 hx
      have HX := Lib.hid hx
      clear hx
      cases hbad : p x
      · have HB := Lib.hid hbad
        clear hbad
        go_wp2_with fail
        rw [hp.1.run, Oper.upon_enter]
        refine (hp.2 _ _).mono ?_
        rintro e w' ⟨rfl, hb1⟩
        rw [HB.out]
        go_wp2
        go_roundw
        case rel => exact ⟨k + 1, by omega, by go_num, by rw [take_snoc HX.out, List.any_append, HA.out]; simp [HB.out], hbl.trans (hb1.mono hbl.size)⟩
        case measure => simp [intOf]; omega
      · have HB := Lib.hid hbad
        clear hbad
        go_wp2_with fail
        rw [hp.1.run, Oper.upon_enter]
        refine (hp.2 _ _).mono ?_
        rintro e w' ⟨rfl, hb1⟩
        rw [HB.out]
        go_wp2
        go_ret
        exact ⟨ret_int (idxF_at HA.out HX.out HB.out).symm, hbl.trans (hb1.mono hbl.size)⟩
    · go_wp2
      go_ret
      have ht : l.take k = l := List.take_of_length_le (by have := h.len; omega)
      exact ⟨ret_int (idxF_none (ht ▸ HA.out)).symm, hbl⟩

set_option maxHeartbeats 400000 in
theorem indexL_any {g : Nat} {p : LotP → Bool} (hp : Pred vL g p) (A : Option Addr) (n cap B : Nat) (l : List LotP) (w : World) (h : Sl eLot 9 w B A n l) (hB : B ≤ w.heap.size) (hl : n ≤ 1000000) :
    Calls Try.prog 41 #[.slice A n cap, .func (.func g) #[] #[]] w fun e w' => e = .returned (.int .i64 (idxF p l)) ∧ Below w.heap.size w w' := by
  go_enter Try.func41, Try.ntmps41
  go_wp2
  go_loopw [8] (fun i wr => ∃ k : Nat, k ≤ n ∧ i = .int .i64 k ∧ (l.take k).any p = false ∧ Below w.heap.size w wr) (fun i _ => n - (intOf i).toNat)
  case atStart => exact ⟨0, Nat.zero_le _, rfl, rfl, Below.refl _ _⟩
  case round =>
    obtain ⟨k, hk, rfl, hany, hbl⟩ := hrel
    have HA := Lib.hid hany
    clear hany
    by_cases hlt : k < n
    · obtain ⟨x, hx⟩ := h.get hlt
      obtain ⟨b, off, rfl, hb, c0, c1, c2, c3, c4, c5, c6, c7, c8⟩ := (h.below (hbl.mono hB)).atLot hx
      have HX := Lib.hid hx
      clear hx
      cases hbad : p x
      · have HB := Lib.hid hbad
        clear hbad
        go_wp2_with fail
        rw [hp.1.run, Oper.upon_enter]
        refine (hp.2 _ _).mono ?_
        rintro e w' ⟨rfl, hb1⟩
        rw [HB.out]
        go_wp2
        go_roundw
        case rel => exact ⟨k + 1, by omega, by go_num, by rw [take_snoc HX.out, List.any_append, HA.out]; simp [HB.out], hbl.trans (hb1.mono hbl.size)⟩
        case measure => simp [intOf]; omega
      · have HB := Lib.hid hbad
        clear hbad
        go_wp2_with fail
        rw [hp.1.run, Oper.upon_enter]
        refine (hp.2 _ _).mono ?_
        rintro e w' ⟨rfl, hb1⟩
        rw [HB.out]
        go_wp2
        go_ret
        exact ⟨ret_int (idxF_at HA.out HX.out HB.out).symm, hbl.trans (hb1.mono hbl.size)⟩
    · go_wp2
      go_ret
      have ht : l.take k = l := List.take_of_length_le (by have := h.len; omega)
      exact ⟨ret_int (idxF_none (ht ▸ HA.out)).symm, hbl⟩

set_option maxHeartbeats 400000 in
theorem containsI_any {g : Nat} {p : Int → Bool} (hp : Pred (fun x : Int => .int .i64 x) g p) (A : Option Addr) (n cap B : Nat) (l : List Int) (w : World) (h : Sl eI 1 w B A n l) (hB : B ≤ w.heap.size) (hl : n ≤ 1000000) :
    Calls Try.prog 44 #[.slice A n cap, .func (.func g) #[] #[]] w fun e w' => e = .returned (.bool (l.any p)) ∧ Below w.heap.size w w' := by
  go_enter Try.func44, Try.ntmps44
  go_wp2_with fail
  refine (indexI_any hp A n cap B l w h hB hl).mono ?_
  rintro e w' ⟨rfl, hb1⟩
  go_wp2
  go_ret
  exact ⟨ret_bool (idxF_any p l), hb1⟩

set_option maxHeartbeats 400000 in
theorem containsR_any {g : Nat} {p : (Int × Int) → Bool} (hp : Pred vR g p) (A : Option Addr) (n cap B : Nat) (l : List (Int × Int)) (w : World) (h : Sl eII 2 w B A n l) (hB : B ≤ w.heap.size) (hl : n ≤ 1000000) :
    Calls Try.prog 33 #[.slice A n cap, .func (.func g) #[] #[]] w fun e w' => e = .returned (.bool (l.any p)) ∧ Below w.heap.size w w' := by
  go_enter Try.func33, Try.ntmps33
  go_wp2_with fail
  refine (indexR_any hp A n cap B l w h hB hl).mono ?_
  rintro e w' ⟨rfl, hb1⟩
  go_wp2
  go_ret
  exact ⟨ret_bool (idxF_any p l), hb1⟩

set_option maxHeartbeats 400000 in
theorem containsL_any {g : Nat} {p : LotP → Bool} (hp : Pred vL g p) (A : Option Addr) (n cap B : Nat) (l : List LotP) (w : World) (h : Sl eLot 9 w B A n l) (hB : B ≤ w.heap.size) (hl : n ≤ 1000000) :
    Calls Try.prog 26 #[.slice A n cap, .func (.func g) #[] #[]] w fun e w' => e = .returned (.bool (l.any p)) ∧ Below w.heap.size w w' := by
  go_enter Try.func26, Try.ntmps26
  go_wp2_with fail
  refine (indexL_any hp A n cap B l w h hB hl).mono ?_
  rintro e w' ⟨rfl, hb1⟩
  go_wp2
  go_ret
  exact ⟨ret_bool (idxF_any p l), hb1⟩
end Go.Proofs.Ythpnikalelookaa
