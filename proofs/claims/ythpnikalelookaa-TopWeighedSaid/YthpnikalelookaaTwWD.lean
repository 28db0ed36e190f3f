/-
  TopWeighed, thirteenth walks: of.
-/
import Derived.Test.YthpnikalelookaaTwWC
namespace Go.Proofs.Ythpnikalelookaa
open Go.RowKit

/-- The margins of a pile, before the k-th species. -/
def stO (M v0 v1 v2 v3 v4 v5 : Int) : Nat → Array Value
  | 0 => cM M (-M) 0 0 0 0 0 0
  | 1 => cM M (-M) v0 v1 0 0 0 0
  | 2 => cM M (-M) v0 v1 v2 v3 0 0
  | _ => cM M (-M) v0 v1 v2 v3 v4 v5

theorem wrapB (n : Int) (h0 : -2000000000000000000 ≤ n) (h1 : n ≤ 2000000000000000000) : IntKind.i64.wrap n = n := IntWalk.i64_in n ⟨by omega, by omega⟩

theorem idx0 (v0 v1 v2 v3 v4 v5 : Value) (w : World) : (Instr.index 26 (.agg #[v0, v1, v2, v3, v4, v5]) (.int .i64 0)).run Try.prog w = .ok (.agg #[v0, v1]) w := by kernel_rfl
theorem idx1 (v0 v1 v2 v3 v4 v5 : Value) (w : World) : (Instr.index 26 (.agg #[v0, v1, v2, v3, v4, v5]) (.int .i64 1)).run Try.prog w = .ok (.agg #[v2, v3]) w := by kernel_rfl
theorem idx2 (v0 v1 v2 v3 v4 v5 : Value) (w : World) : (Instr.index 26 (.agg #[v0, v1, v2, v3, v4, v5]) (.int .i64 2)).run Try.prog w = .ok (.agg #[v4, v5]) w := by kernel_rfl

set_option maxRecDepth 100000 in
set_option maxHeartbeats 4000000 in
theorem of_any (A : Option Addr) (n cap : Nat) (ml mh t0 u0 t1 u1 t2 u2 M a0 b0 a1 b1 a2 b2 : Int) (w : World)
    (T0 U0 T1 U1 T2 U2 : Int) (et0 : t0 * M = T0) (eu0 : u0 * M = U0) (et1 : t1 * M = T1) (eu1 : u1 * M = U1) (et2 : t2 * M = T2) (eu2 : u2 * M = U2)
    (hM : 0 ≤ M ∧ M ≤ 10000000000) (hT0 : 0 ≤ T0 ∧ T0 ≤ 1000000000000000000) (hU0 : 0 ≤ U0 ∧ U0 ≤ 1000000000000000000) (hT1 : 0 ≤ T1 ∧ T1 ≤ 1000000000000000000) (hU1 : 0 ≤ U1 ∧ U1 ≤ 1000000000000000000) (hT2 : 0 ≤ T2 ∧ T2 ≤ 1000000000000000000) (hU2 : 0 ≤ U2 ∧ U2 ≤ 1000000000000000000)
    (ha0 : 0 ≤ a0 ∧ a0 ≤ 1000000000000) (hb0 : 0 ≤ b0 ∧ b0 ≤ 1000000000000) (ha1 : 0 ≤ a1 ∧ a1 ≤ 1000000000000) (hb1 : 0 ≤ b1 ∧ b1 ≤ 1000000000000) (ha2 : 0 ≤ a2 ∧ a2 ≤ 1000000000000) (hb2 : 0 ≤ b2 ∧ b2 ≤ 1000000000000) :
    Calls Try.prog 24 #[vM A n cap ml mh t0 u0 t1 u1 t2 u2, .agg (cP M a0 b0 a1 b1 a2 b2)] w fun e w' => e = .returned (.agg (cM M (-M) (U0 - 1000000 * b0) (1000000 * a0 - T0) (U1 - 1000000 * b1) (1000000 * a1 - T1) (U2 - 1000000 * b2) (1000000 * a2 - T2))) ∧ Below w.heap.size w w' := by
  unfold vM cP
  have em := wrapB (-M) (by omega) (by omega)
  go_enter Try.func24, Try.ntmps24
  go_wp2
  go_region
  clear em
  go_wp2
  go_loopw [16] (fun i wr => ∃ k : Nat, k ≤ 3 ∧ i = .int .i64 k ∧ Below w.heap.size w wr ∧ Bk wr (w.heap.size + 1) 33 (cP M a0 b0 a1 b1 a2 b2) ∧ Bk wr (w.heap.size + 1 + 1) 63 (stO M (U0 - 1000000 * b0) (1000000 * a0 - T0) (U1 - 1000000 * b1) (1000000 * a1 - T1) (U2 - 1000000 * b2) (1000000 * a2 - T2) k)) (fun i _ => 3 - (intOf i).toNat)
  case atStart =>
    exact ⟨0, by omega, rfl, ((((Below.refl _ _).alloc (Nat.le_refl _) _).alloc (by simp) _).alloc (by simp <;> omega) _).drew, ((Bk.newAt (w.alloc _) _ _ (w.heap.size + 1) (by simp)).alloc _).drew, (Bk.newAt ((w.alloc _).alloc _) _ _ (w.heap.size + 1 + 1) (by simp)).drew⟩
  case round =>
    obtain ⟨k, hk, rfl, hbl, hp, hq⟩ := hrel
    have hlt := hq.lt
    have hlt1 : w.heap.size + 1 < wr.heap.size := by omega
    have HP := Lib.hid hp
    have HQ := Lib.hid hq
    have HB := Lib.hid hbl
    have hk4 : k = 0 ∨ k = 1 ∨ k = 2 ∨ k = 3 := by omega
    obtain ⟨⟨p0, p1, p2, p3, p4, p5, p6⟩, -⟩ := hp.pile
    rcases hk4 with rfl | rfl | rfl | rfl
    · have f1 := hq.frozen 2
      have f2 := hq.frozen 3
      obtain ⟨⟨q0, q1, q2, q3, q4, q5, q6, q7⟩, -⟩ := Bk.marg hq
      clear hp hq hbl q0 q1
      have e1 := wrapB U0 (by omega) (by omega)
      have e2 := wrapB (1000000 * b0) (by omega) (by omega)
      have e3 := wrapB (U0 - 1000000 * b0) (by omega) (by omega)
      have e4 := wrapB T0 (by omega) (by omega)
      have e5 := wrapB (1000000 * a0) (by omega) (by omega)
      have e6 := wrapB (1000000 * a0 - T0) (by omega) (by omega)
      have n1 : ¬ w.heap.size + 1 = w.heap.size + 1 + 1 := by omega
      go_wp2_with (simp only [idx0])
      go_region
      go_wp2
      go_region
      clear e1 e2 e3 e4 e5 e6
      go_wp2
      go_roundw
      case rel =>
        refine ⟨1, by omega, by go_num, ?_, ?_, ?_⟩
        · exact ((((HB.out.setCell (by simp <;> omega) _).setCell (by simp <;> omega) _).alloc (by simp [World.setCell]; omega) _).drew).drew
        · exact (((HP.out.other n1 _).other n1 _).alloc _).drew.drew
        · exact (((HQ.out.put 2 (.int .i64 (U0 - 1000000 * b0)) (cM M (-M) (U0 - 1000000 * b0) 0 0 0 0 0) rfl).put 3 _ _ rfl).alloc _).drew.drew
      case measure => simp [intOf]
    · have f1 := hq.frozen 4
      have f2 := hq.frozen 5
      obtain ⟨⟨q0, q1, q2, q3, q4, q5, q6, q7⟩, -⟩ := Bk.marg hq
      clear hp hq hbl q0 q1
      have e1 := wrapB U1 (by omega) (by omega)
      have e2 := wrapB (1000000 * b1) (by omega) (by omega)
      have e3 := wrapB (U1 - 1000000 * b1) (by omega) (by omega)
      have e4 := wrapB T1 (by omega) (by omega)
      have e5 := wrapB (1000000 * a1) (by omega) (by omega)
      have e6 := wrapB (1000000 * a1 - T1) (by omega) (by omega)
      have n1 : ¬ w.heap.size + 1 = w.heap.size + 1 + 1 := by omega
      go_wp2_with (simp only [idx1])
      go_region
      go_wp2
      go_region
      clear e1 e2 e3 e4 e5 e6
      go_wp2
      go_roundw
      case rel =>
        refine ⟨2, by omega, by go_num, ?_, ?_, ?_⟩
        · exact ((((HB.out.setCell (by simp <;> omega) _).setCell (by simp <;> omega) _).alloc (by simp [World.setCell]; omega) _).drew).drew
        · exact (((HP.out.other n1 _).other n1 _).alloc _).drew.drew
        · exact (((HQ.out.put 4 (.int .i64 (U1 - 1000000 * b1)) (cM M (-M) (U0 - 1000000 * b0) (1000000 * a0 - T0) (U1 - 1000000 * b1) 0 0 0) rfl).put 5 _ _ rfl).alloc _).drew.drew
      case measure => simp [intOf]
    · have f1 := hq.frozen 6
      have f2 := hq.frozen 7
      obtain ⟨⟨q0, q1, q2, q3, q4, q5, q6, q7⟩, -⟩ := Bk.marg hq
      clear hp hq hbl q0 q1
      have e1 := wrapB U2 (by omega) (by omega)
      have e2 := wrapB (1000000 * b2) (by omega) (by omega)
      have e3 := wrapB (U2 - 1000000 * b2) (by omega) (by omega)
      have e4 := wrapB T2 (by omega) (by omega)
      have e5 := wrapB (1000000 * a2) (by omega) (by omega)
      have e6 := wrapB (1000000 * a2 - T2) (by omega) (by omega)
      have n1 : ¬ w.heap.size + 1 = w.heap.size + 1 + 1 := by omega
      go_wp2_with (simp only [idx2])
      go_region
      go_wp2
      go_region
      clear e1 e2 e3 e4 e5 e6
      go_wp2
      go_roundw
      case rel =>
        refine ⟨3, by omega, by go_num, ?_, ?_, ?_⟩
        · exact ((((HB.out.setCell (by simp <;> omega) _).setCell (by simp <;> omega) _).alloc (by simp [World.setCell]; omega) _).drew).drew
        · exact (((HP.out.other n1 _).other n1 _).alloc _).drew.drew
        · exact (((HQ.out.put 6 (.int .i64 (U2 - 1000000 * b2)) (cM M (-M) (U0 - 1000000 * b0) (1000000 * a0 - T0) (U1 - 1000000 * b1) (1000000 * a1 - T1) (U2 - 1000000 * b2) 0) rfl).put 7 _ _ rfl).alloc _).drew.drew
      case measure => simp [intOf]
    · obtain ⟨⟨q0, q1, q2, q3, q4, q5, q6, q7⟩, ⟨f0, f1, f2, f3, f4, f5, f6, f7⟩⟩ := Bk.marg (m0 := M) (m1 := -M) (m2 := U0 - 1000000 * b0) (m3 := 1000000 * a0 - T0) (m4 := U1 - 1000000 * b1) (m5 := 1000000 * a1 - T1) (m6 := U2 - 1000000 * b2) (m7 := 1000000 * a2 - T2) hq
      clear hp hq hbl
      go_wp2
      refine bodyPost_ret (v := .agg (cM M (-M) (U0 - 1000000 * b0) (1000000 * a0 - T0) (U1 - 1000000 * b1) (1000000 * a1 - T1) (U2 - 1000000 * b2) (1000000 * a2 - T2))) (by simp [results, Try.results24, go_sem, cM, q0, q1, q2, q3, q4, q5, q6, q7]) rfl ⟨rfl, ?_⟩
      exact below8 HB.out (by omega) _ _ _ _ _ _ _ _
end Go.Proofs.Ythpnikalelookaa
