/-
  TopWeighed, twelfth walks: margins.
-/
import Derived.Test.YthpnikalelookaaTwWB
namespace Go.Proofs.Ythpnikalelookaa
open Go.RowKit

/-- The cells of eight margins. -/
def cM (m0 m1 m2 m3 m4 m5 m6 m7 : Int) : Array Value := #[.int .i64 m0, .int .i64 m1, .int .i64 m2, .int .i64 m3, .int .i64 m4, .int .i64 m5, .int .i64 m6, .int .i64 m7]
theorem Bk.marg {w : World} {g : Nat} {t : TypeId} {m0 m1 m2 m3 m4 m5 m6 m7 : Int} (h : Bk w g t (cM m0 m1 m2 m3 m4 m5 m6 m7)) :
    (w.cell? ⟨g, 0, none⟩ = some (.int .i64 m0) ∧ w.cell? ⟨g, 1, none⟩ = some (.int .i64 m1) ∧ w.cell? ⟨g, 2, none⟩ = some (.int .i64 m2) ∧ w.cell? ⟨g, 3, none⟩ = some (.int .i64 m3) ∧ w.cell? ⟨g, 4, none⟩ = some (.int .i64 m4) ∧ w.cell? ⟨g, 5, none⟩ = some (.int .i64 m5) ∧ w.cell? ⟨g, 6, none⟩ = some (.int .i64 m6) ∧ w.cell? ⟨g, 7, none⟩ = some (.int .i64 m7)) ∧
    (w.frozen? ⟨g, 0, none⟩ = false ∧ w.frozen? ⟨g, 1, none⟩ = false ∧ w.frozen? ⟨g, 2, none⟩ = false ∧ w.frozen? ⟨g, 3, none⟩ = false ∧ w.frozen? ⟨g, 4, none⟩ = false ∧ w.frozen? ⟨g, 5, none⟩ = false ∧ w.frozen? ⟨g, 6, none⟩ = false ∧ w.frozen? ⟨g, 7, none⟩ = false) :=
  ⟨⟨h.cell rfl, h.cell rfl, h.cell rfl, h.cell rfl, h.cell rfl, h.cell rfl, h.cell rfl, h.cell rfl⟩, ⟨h.frozen 0, h.frozen 1, h.frozen 2, h.frozen 3, h.frozen 4, h.frozen 5, h.frozen 6, h.frozen 7⟩⟩
theorem below8 {B g : Nat} {w w' : World} (h : Below B w w') (hg : B ≤ g) (v0 v1 v2 v3 v4 v5 v6 v7 : Value) : Below B w ((((((((w'.setCell ⟨g, 0, none⟩ v0).setCell ⟨g, 1, none⟩ v1).setCell ⟨g, 2, none⟩ v2).setCell ⟨g, 3, none⟩ v3).setCell ⟨g, 4, none⟩ v4).setCell ⟨g, 5, none⟩ v5).setCell ⟨g, 6, none⟩ v6).setCell ⟨g, 7, none⟩ v7) :=
  (((((((h.setCell hg _).setCell hg _).setCell hg _).setCell hg _).setCell hg _).setCell hg _).setCell hg _).setCell hg _

set_option maxHeartbeats 1000000 in
theorem base_any (A : Option Addr) (n cap : Nat) (ml mh t0 u0 t1 u1 t2 u2 : Int) (h0 : 0 ≤ ml) (h1 : ml ≤ 1000000000) (w : World) :
    Calls Try.prog 22 #[vM A n cap ml mh t0 u0 t1 u1 t2 u2] w fun e w' => e = .returned (.agg (cM (-ml) mh 0 0 0 0 0 0)) ∧ Below w.heap.size w w' := by
  unfold vM
  go_enter Try.func22, Try.ntmps22
  go_wp2
  refine bodyPost_ret (v := .agg (cM (-ml) mh 0 0 0 0 0 0)) (by simp [results, Try.results22, go_sem, cM]) rfl ⟨rfl, ?_⟩
  exact ((Below.refl _ _).alloc (Nat.le_refl _) _).alloc (by simp) _

set_option maxHeartbeats 1000000 in
theorem broken_any (m0 m1 m2 m3 m4 m5 m6 m7 : Int) (w : World) :
    Calls Try.prog 25 #[.agg (cM m0 m1 m2 m3 m4 m5 m6 m7)] w fun e w' => e = .returned (.int .i64 (idxF (fun x => decide (x < 0)) [m0, m1, m2, m3, m4, m5, m6, m7])) ∧ Below w.heap.size w w' := by
  have hs := Lib.hid (Sl.new enc1 w 63 w.heap.size rfl [m0, m1, m2, m3, m4, m5, m6, m7] (cM m0 m1 m2 m3 m4 m5 m6 m7) (by simp [maxLen]) rfl)
  unfold cM at *
  go_enter Try.func25, Try.ntmps25
  go_wp2_with fail
  refine (indexI_any brokenOne_any (some ⟨w.heap.size, 0, none⟩) 8 8 (w.heap.size + 1) [m0, m1, m2, m3, m4, m5, m6, m7] _ hs.out (by simp) (by omega)).mono ?_
  rintro e w1 ⟨rfl, hb1⟩
  have hbb : Below w.heap.size w w1 := ((Below.refl w.heap.size w).alloc (Nat.le_refl _) _).trans (hb1.mono (by simp))
  clear hb1 hs
  generalize hq : idxF (fun x => decide (x < 0)) [m0, m1, m2, m3, m4, m5, m6, m7] = q at *
  have HQ := Lib.hid hq
  clear hq
  go_wp2
  go_ret
  exact ⟨ret_int HQ.out.symm, hbb⟩

/-- Margins while others are added to them: before the k-th. -/
def stM (x0 x1 x2 x3 x4 x5 x6 x7 y0 y1 y2 y3 y4 y5 y6 y7 : Int) : Nat → Array Value
  | 0 => cM x0 x1 x2 x3 x4 x5 x6 x7
  | 1 => cM (x0 + y0) x1 x2 x3 x4 x5 x6 x7
  | 2 => cM (x0 + y0) (x1 + y1) x2 x3 x4 x5 x6 x7
  | 3 => cM (x0 + y0) (x1 + y1) (x2 + y2) x3 x4 x5 x6 x7
  | 4 => cM (x0 + y0) (x1 + y1) (x2 + y2) (x3 + y3) x4 x5 x6 x7
  | 5 => cM (x0 + y0) (x1 + y1) (x2 + y2) (x3 + y3) (x4 + y4) x5 x6 x7
  | 6 => cM (x0 + y0) (x1 + y1) (x2 + y2) (x3 + y3) (x4 + y4) (x5 + y5) x6 x7
  | 7 => cM (x0 + y0) (x1 + y1) (x2 + y2) (x3 + y3) (x4 + y4) (x5 + y5) (x6 + y6) x7
  | _ => cM (x0 + y0) (x1 + y1) (x2 + y2) (x3 + y3) (x4 + y4) (x5 + y5) (x6 + y6) (x7 + y7)
def smM (x : Int) : Prop := -2000000000000000000 ≤ x ∧ x ≤ 2000000000000000000
theorem stM_step {x0 x1 x2 x3 x4 x5 x6 x7 y0 y1 y2 y3 y4 y5 y6 y7 : Int} (hx : ∀ x ∈ [x0, x1, x2, x3, x4, x5, x6, x7], smM x) (hy : ∀ x ∈ [y0, y1, y2, y3, y4, y5, y6, y7], smM x) {k : Nat} (hk : k < 8) :
    ∃ x y, (stM x0 x1 x2 x3 x4 x5 x6 x7 y0 y1 y2 y3 y4 y5 y6 y7 k)[k]? = some (.int .i64 x) ∧ (cM y0 y1 y2 y3 y4 y5 y6 y7)[k]? = some (.int .i64 y) ∧ smM x ∧ smM y ∧
      (stM x0 x1 x2 x3 x4 x5 x6 x7 y0 y1 y2 y3 y4 y5 y6 y7 k).setIfInBounds k (.int .i64 (x + y)) = stM x0 x1 x2 x3 x4 x5 x6 x7 y0 y1 y2 y3 y4 y5 y6 y7 (k + 1) := by
  match k, hk with
  | 0, _ => exact ⟨x0, y0, rfl, rfl, hx _ (by simp), hy _ (by simp), rfl⟩
  | 1, _ => exact ⟨x1, y1, rfl, rfl, hx _ (by simp), hy _ (by simp), rfl⟩
  | 2, _ => exact ⟨x2, y2, rfl, rfl, hx _ (by simp), hy _ (by simp), rfl⟩
  | 3, _ => exact ⟨x3, y3, rfl, rfl, hx _ (by simp), hy _ (by simp), rfl⟩
  | 4, _ => exact ⟨x4, y4, rfl, rfl, hx _ (by simp), hy _ (by simp), rfl⟩
  | 5, _ => exact ⟨x5, y5, rfl, rfl, hx _ (by simp), hy _ (by simp), rfl⟩
  | 6, _ => exact ⟨x6, y6, rfl, rfl, hx _ (by simp), hy _ (by simp), rfl⟩
  | 7, _ => exact ⟨x7, y7, rfl, rfl, hx _ (by simp), hy _ (by simp), rfl⟩

set_option maxHeartbeats 2000000 in
theorem plus_any (x0 x1 x2 x3 x4 x5 x6 x7 y0 y1 y2 y3 y4 y5 y6 y7 : Int) (hx : ∀ x ∈ [x0, x1, x2, x3, x4, x5, x6, x7], smM x) (hy : ∀ x ∈ [y0, y1, y2, y3, y4, y5, y6, y7], smM x) (w : World) :
    Calls Try.prog 23 #[.agg (cM x0 x1 x2 x3 x4 x5 x6 x7), .agg (cM y0 y1 y2 y3 y4 y5 y6 y7), .int .i64 1] w fun e w' => e = .returned (.agg (cM (x0 + y0) (x1 + y1) (x2 + y2) (x3 + y3) (x4 + y4) (x5 + y5) (x6 + y6) (x7 + y7))) ∧ Below w.heap.size w w' := by
  have HX := Lib.hid (fun (k : Nat) (hk : k < 8) => stM_step hx hy hk)
  clear hx hy
  unfold cM
  go_enter Try.func23, Try.ntmps23
  go_wp2
  go_loopw [8] (fun i wr => ∃ k : Nat, k ≤ 8 ∧ i = .int .i64 k ∧ Below w.heap.size w wr ∧ Bk wr w.heap.size 63 (stM x0 x1 x2 x3 x4 x5 x6 x7 y0 y1 y2 y3 y4 y5 y6 y7 k) ∧ Bk wr (w.heap.size + 1) 63 (cM y0 y1 y2 y3 y4 y5 y6 y7) ∧ Bk wr (w.heap.size + 1 + 1) 63 (cM 0 0 0 0 0 0 0 0)) (fun i _ => 8 - (intOf i).toNat)
  case atStart => exact ⟨0, by omega, rfl, (((Below.refl _ _).alloc (Nat.le_refl _) _).alloc (by simp) _).alloc (by simp <;> omega) _, ((Bk.newAt w _ _ w.heap.size rfl).alloc _).alloc _, (Bk.newAt (w.alloc _) _ _ (w.heap.size + 1) (by simp)).alloc _, Bk.newAt ((w.alloc _).alloc _) _ _ (w.heap.size + 1 + 1) (by simp)⟩
  case round =>
    obtain ⟨k, hk, rfl, hbl, hp, hq, hr⟩ := hrel
    by_cases hk8 : k < 8
    · obtain ⟨x, y, g1, g2, g3, g4, g5⟩ := HX.out k hk8
      have c1 := hp.cell g1
      have c2 := hq.cell g2
      have f1 := hp.frozen k
      have HP := Lib.hid (hp.put k _ _ g5)
      have HQ := Lib.hid hq
      have HR := Lib.hid hr
      clear hp hq hr g1 g2 g5
      unfold smM at g3 g4
      have e1 : IntKind.i64.wrap y = y := IntWalk.i64_in y ⟨by omega, by omega⟩
      have e2 : IntKind.i64.wrap (x + y) = x + y := IntWalk.i64_in _ ⟨by omega, by omega⟩
      have n1 : ¬ w.heap.size + 1 = w.heap.size := by omega
      have n2 : ¬ w.heap.size + 1 + 1 = w.heap.size := by omega
      go_wp2
      go_region
      clear e1 e2
      go_wp2
      go_roundw
      case rel => exact ⟨k + 1, by omega, by go_num, (hbl.setCell (Nat.le_refl _) _).drew, HP.out.drew, (HQ.out.other n1 _).drew, (HR.out.other n2 _).drew⟩
      case measure => simp [intOf]; omega
    · obtain rfl : k = 8 := by omega
      obtain ⟨⟨p0, p1, p2, p3, p4, p5, p6, p7⟩, -⟩ := Bk.marg (m0 := x0 + y0) (m1 := x1 + y1) (m2 := x2 + y2) (m3 := x3 + y3) (m4 := x4 + y4) (m5 := x5 + y5) (m6 := x6 + y6) (m7 := x7 + y7) hp
      obtain ⟨⟨q0, q1, q2, q3, q4, q5, q6, q7⟩, ⟨f0, f1, f2, f3, f4, f5, f6, f7⟩⟩ := hr.marg
      clear hp hq hr
      go_wp2
      refine bodyPost_ret (v := .agg (cM (x0 + y0) (x1 + y1) (x2 + y2) (x3 + y3) (x4 + y4) (x5 + y5) (x6 + y6) (x7 + y7))) (by simp [results, Try.results23, go_sem, cM, q0, q1, q2, q3, q4, q5, q6, q7]) rfl ⟨rfl, ?_⟩
      exact below8 hbl (by omega) _ _ _ _ _ _ _ _
end Go.Proofs.Ythpnikalelookaa
