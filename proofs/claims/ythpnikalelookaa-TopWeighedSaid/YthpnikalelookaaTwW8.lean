/-
  TopWeighed, eighth walks: Check, put.
-/
import Derived.Test.YthpnikalelookaaTwW7
namespace Go.Proofs.Ythpnikalelookaa
open Go.RowKit

/-- A recipe's value. -/
def vM (A : Option Addr) (n cap : Nat) (ml mh t0 u0 t1 u1 t2 u2 : Int) : Value := .agg #[.slice A n cap, .int .i64 ml, .int .i64 mh, .int .i64 t0, .int .i64 u0, .int .i64 t1, .int .i64 u1, .int .i64 t2, .int .i64 u2]
/-- What Check answers. -/
def chkF (l : List LotP) (ml mh t0 u0 t1 u1 t2 u2 : Int) : Int :=
  if 6 < l.length then 5 else if (l.any fun x => !lotB x) = true then 2 else if rngB ml mh 1000000000 = false then 2 else if bndB t0 u0 t1 u1 t2 u2 = false then 2 else 0

set_option maxHeartbeats 1000000 in
theorem check_any (A : Option Addr) (n cap B : Nat) (l : List LotP) (ml mh t0 u0 t1 u1 t2 u2 : Int) (w : World) (h : Sl eLot 9 w B A n l) (hB : B ≤ w.heap.size) (hn : n ≤ 1000000) :
    Calls Try.prog 11 #[vM A n cap ml mh t0 u0 t1 u1 t2 u2] w fun e w' => e = .returned (.int .i64 (chkF l ml mh t0 u0 t1 u1 t2 u2)) ∧ Below w.heap.size w w' := by
  have hlen := h.len
  unfold vM
  by_cases h6 : 6 < n
  · have HR := Lib.hid (show chkF l ml mh t0 u0 t1 u1 t2 u2 = 5 by unfold chkF; rw [if_pos (by omega)])
    go_enter Try.func11, Try.ntmps11
    go_wp2
    go_ret
    exact ⟨ret_int HR.out.symm, (Below.refl _ _).alloc (Nat.le_refl _) _⟩
  · have H6 := Lib.hid (show ¬ 6 < l.length by omega)
    have hs0 := h.below ((Below.refl w.heap.size w).alloc (Nat.le_refl _) (.cells #[.slice A n cap, .int .i64 ml, .int .i64 mh, .int .i64 t0, .int .i64 u0, .int .i64 t1, .int .i64 u1, .int .i64 t2, .int .i64 u2] 28) |>.mono hB)
    have HC := Lib.hid (containsL_any checkOne_any A n cap B l _ hs0 (by simp <;> omega) hn)
    cases ha : l.any (fun x => !lotB x)
    · cases hr : rngB ml mh 1000000000
      · have HA := Lib.hid ha
        have HG := Lib.hid hr
        clear ha hr
        go_enter Try.func11, Try.ntmps11
        go_wp2_with fail
        refine HC.out.mono ?_
        rintro e w1 ⟨rfl, hb1⟩
        rw [HA.out]
        have k0 := (Bk.newAt w #[.slice A n cap, .int .i64 ml, .int .i64 mh, .int .i64 t0, .int .i64 u0, .int .i64 t1, .int .i64 u1, .int .i64 t2, .int .i64 u2] 28 w.heap.size rfl).below hb1 (by simp)
        have hz1 := hb1.size
        simp at hz1
        have c1 : w1.cell? ⟨w.heap.size, 1, none⟩ = some (.int .i64 ml) := k0.cell rfl
        have c2 : w1.cell? ⟨w.heap.size, 2, none⟩ = some (.int .i64 mh) := k0.cell rfl
        have HBB := Lib.hid (((Below.refl w.heap.size w).alloc (Nat.le_refl _) _).trans (hb1.mono (by simp)))
        clear hb1 k0
        go_wp2_with fail
        refine (isRange_any ml mh 1000000000 _).mono ?_
        rintro e w2 ⟨rfl, hb2⟩
        rw [HG.out]
        replace HBB := Lib.hid (HBB.out.trans (hb2.mono (by omega)))
        clear hb2
        go_wp2
        go_ret
        exact ⟨ret_int (by unfold chkF; rw [if_neg H6.out, if_neg (by rw [HA.out]; simp), if_pos HG.out]), HBB.out⟩
      · cases hb : bndB t0 u0 t1 u1 t2 u2
        all_goals
          have HA := Lib.hid ha
          have HG := Lib.hid hr
          have HD := Lib.hid hb
          clear hb
          go_enter Try.func11, Try.ntmps11
          go_wp2_with fail
          refine HC.out.mono ?_
          rintro e w1 ⟨rfl, hb1⟩
          rw [HA.out]
          have k0 := (Bk.newAt w #[.slice A n cap, .int .i64 ml, .int .i64 mh, .int .i64 t0, .int .i64 u0, .int .i64 t1, .int .i64 u1, .int .i64 t2, .int .i64 u2] 28 w.heap.size rfl).below hb1 (by simp)
          have hz1 := hb1.size
          simp at hz1
          have c1 : w1.cell? ⟨w.heap.size, 1, none⟩ = some (.int .i64 ml) := k0.cell rfl
          have c2 : w1.cell? ⟨w.heap.size, 2, none⟩ = some (.int .i64 mh) := k0.cell rfl
          have HBB := Lib.hid (((Below.refl w.heap.size w).alloc (Nat.le_refl _) _).trans (hb1.mono (by simp)))
          have K0 := Lib.hid k0
          clear hb1 k0
          go_wp2_with fail
          refine (isRange_any ml mh 1000000000 _).mono ?_
          rintro e w2 ⟨rfl, hb2⟩
          rw [HG.out]
          have hz2 := hb2.size
          have k0 := K0.out.below hb2 (by omega)
          replace HBB := Lib.hid (HBB.out.trans (hb2.mono (by omega)))
          clear hb2 c1 c2
          have c3 : w2.cell? ⟨w.heap.size, 3, none⟩ = some (.int .i64 t0) := k0.cell rfl
          have c4 : w2.cell? ⟨w.heap.size, 4, none⟩ = some (.int .i64 u0) := k0.cell rfl
          have c5 : w2.cell? ⟨w.heap.size, 5, none⟩ = some (.int .i64 t1) := k0.cell rfl
          have c6 : w2.cell? ⟨w.heap.size, 6, none⟩ = some (.int .i64 u1) := k0.cell rfl
          have c7 : w2.cell? ⟨w.heap.size, 7, none⟩ = some (.int .i64 t2) := k0.cell rfl
          have c8 : w2.cell? ⟨w.heap.size, 8, none⟩ = some (.int .i64 u2) := k0.cell rfl
          clear k0
          go_wp2_with fail
          refine (areBounds_any t0 u0 t1 u1 t2 u2 _).mono ?_
          rintro e w3 ⟨rfl, hb3⟩
          rw [HD.out]
          replace HBB := Lib.hid (HBB.out.trans (hb3.mono (by omega)))
          clear hb3 c3 c4 c5 c6 c7 c8
          go_wp2
          go_ret
          exact ⟨ret_int (by unfold chkF; rw [if_neg H6.out, if_neg (by rw [HA.out]; simp), if_neg (by rw [HG.out]; simp), HD.out]; rfl), HBB.out⟩
    · have HA := Lib.hid ha
      clear ha
      go_enter Try.func11, Try.ntmps11
      go_wp2_with fail
      refine HC.out.mono ?_
      rintro e w1 ⟨rfl, hb1⟩
      rw [HA.out]
      have HBB := Lib.hid (((Below.refl w.heap.size w).alloc (Nat.le_refl _) _).trans (hb1.mono (by simp)))
      clear hb1
      go_wp2
      go_ret
      exact ⟨ret_int (by unfold chkF; rw [if_neg H6.out, if_pos HA.out]), HBB.out⟩

/-- The cells of a pile. -/
def cP (m a0 b0 a1 b1 a2 b2 : Int) : Array Value := #[.int .i64 m, .int .i64 a0, .int .i64 b0, .int .i64 a1, .int .i64 b1, .int .i64 a2, .int .i64 b2]
/-- A pile while pieces are put to it: before the k-th species. -/
def stP (m a0 b0 a1 b1 a2 b2 c0 d0 c1 d1 c2 d2 : Int) : Nat → Array Value
  | 0 => cP m a0 b0 a1 b1 a2 b2
  | 1 => cP m (a0 + c0) (b0 + d0) a1 b1 a2 b2
  | 2 => cP m (a0 + c0) (b0 + d0) (a1 + c1) (b1 + d1) a2 b2
  | _ => cP m (a0 + c0) (b0 + d0) (a1 + c1) (b1 + d1) (a2 + c2) (b2 + d2)
/-- A number of a pile, of which nothing runs over. -/
def smP (x : Int) : Prop := 0 ≤ x ∧ x ≤ 10000000000000
end Go.Proofs.Ythpnikalelookaa
