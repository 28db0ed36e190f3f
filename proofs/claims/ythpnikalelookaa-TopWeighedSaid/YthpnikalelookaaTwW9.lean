/-
  TopWeighed, ninth walks: put.
-/
import Derived.Test.YthpnikalelookaaTwW8
namespace Go.Proofs.Ythpnikalelookaa
open Go.RowKit

theorem wrapI (n : Int) (h0 : 0 ≤ n) (h1 : n ≤ 1000000000000000) : IntKind.i64.wrap n = n := IntWalk.i64_in n ⟨by omega, by omega⟩

theorem grown_alloc {w w' : World} {row : Option Nat} (h : w.grownBy w' row) (o : Obj) : w.grownBy (w'.alloc o) row :=
  ⟨h.os, h.tape, h.output, by have := h.size; simp; omega, fun k hk hne => (Below.heap_alloc w' o k (Nat.lt_of_lt_of_le hk h.size)).trans (h.block k hk hne)⟩

set_option maxHeartbeats 4000000 in
theorem put_any (g : Nat) (m a0 b0 a1 b1 a2 b2 cnt mass l0 h0 l1 h1 l2 h2 cost n : Int) (w : World) (hk : Bk w g 33 (cP m a0 b0 a1 b1 a2 b2))
    (em c0 d0 c1 d1 c2 d2 : Int) (em' : n * mass = em) (ec0 : n * l0 = c0) (ed0 : n * h0 = d0) (ec1 : n * l1 = c1) (ed1 : n * h1 = d1) (ec2 : n * l2 = c2) (ed2 : n * h2 = d2)
    (s0 : smP m) (s1 : smP a0) (s2 : smP b0) (s3 : smP a1) (s4 : smP b1) (s5 : smP a2) (s6 : smP b2) (t0 : smP em) (t1 : smP c0) (t2 : smP d0) (t3 : smP c1) (t4 : smP d1) (t5 : smP c2) (t6 : smP d2) :
    Calls Try.prog 32 #[.pointer (some ⟨g, 0, none⟩), .agg #[.int .i64 cnt, .int .i64 mass, .int .i64 l0, .int .i64 h0, .int .i64 l1, .int .i64 h1, .int .i64 l2, .int .i64 h2, .int .i64 cost], .int .i64 n] w fun e w' => e = .returned (.tuple #[]) ∧ Bk w' g 33 (cP (m + em) (a0 + c0) (b0 + d0) (a1 + c1) (b1 + d1) (a2 + c2) (b2 + d2)) ∧ w.grownBy w' (some g) := by
  have hlt := hk.lt
  have q0 : w.cell? ⟨g, 0, none⟩ = some (.int .i64 m) := hk.cell rfl
  have f0 := hk.frozen 0
  have HK := Lib.hid hk
  clear hk
  unfold smP at *
  have e1 := wrapI em (by omega) (by omega)
  have e2 := wrapI (m + em) (by omega) (by omega)
  go_enter Try.func32, Try.ntmps32
  go_wp2
  go_region
  clear e1 e2
  go_wp2
  go_loopw [18] (fun i wr => ∃ k : Nat, k ≤ 3 ∧ i = .int .i64 k ∧ Bk wr g 33 (stP (m + em) a0 b0 a1 b1 a2 b2 c0 d0 c1 d1 c2 d2 k) ∧ Bk wr w.heap.size 38 #[.int .i64 cnt, .int .i64 mass, .int .i64 l0, .int .i64 h0, .int .i64 l1, .int .i64 h1, .int .i64 l2, .int .i64 h2, .int .i64 cost] ∧ w.grownBy wr (some g)) (fun i _ => 3 - (intOf i).toNat)
  case atStart =>
    refine ⟨0, by omega, rfl, ?_, ?_, ?_⟩
    · exact ((HK.out.put 0 (.int .i64 (m + em)) (cP (m + em) a0 b0 a1 b1 a2 b2) rfl).alloc _).drew
    · exact (Bk.newAt _ _ _ w.heap.size (by simp [World.setCell])).drew
    · exact grown_drew (grown_alloc (grown_put (grown_of (Below.refl _ _) _) _ _) _)
  case round =>
    obtain ⟨k, hk, rfl, hp, hl, hg⟩ := hrel
    have hne : ¬ g = w.heap.size := by omega
    have hne2 : ¬ w.heap.size = g := by omega
    have hk4 : k = 0 ∨ k = 1 ∨ k = 2 ∨ k = 3 := by omega
    have r0 : wr.cell? ⟨w.heap.size, 0, none⟩ = some (.int .i64 cnt) := hl.cell rfl
    have r2 : wr.cell? ⟨w.heap.size, 2, none⟩ = some (.int .i64 l0) := hl.cell rfl
    have r3 : wr.cell? ⟨w.heap.size, 3, none⟩ = some (.int .i64 h0) := hl.cell rfl
    have r4 : wr.cell? ⟨w.heap.size, 4, none⟩ = some (.int .i64 l1) := hl.cell rfl
    have r5 : wr.cell? ⟨w.heap.size, 5, none⟩ = some (.int .i64 h1) := hl.cell rfl
    have r6 : wr.cell? ⟨w.heap.size, 6, none⟩ = some (.int .i64 l2) := hl.cell rfl
    have r7 : wr.cell? ⟨w.heap.size, 7, none⟩ = some (.int .i64 h2) := hl.cell rfl
    have HP := Lib.hid hp
    have HL := Lib.hid hl
    have HG := Lib.hid hg
    have F := fun j => hp.frozen j
    clear hl hg
    rcases hk4 with rfl | rfl | rfl | rfl
    · have p1 : wr.cell? ⟨g, 1, none⟩ = some (.int .i64 a0) := hp.cell rfl
      have p2 : wr.cell? ⟨g, 2, none⟩ = some (.int .i64 b0) := hp.cell rfl
      have f1 := F 1
      have f2 := F 2
      clear F hp
      have e1 := wrapI c0 (by omega) (by omega)
      have e2 := wrapI (a0 + c0) (by omega) (by omega)
      have e3 := wrapI d0 (by omega) (by omega)
      have e4 := wrapI (b0 + d0) (by omega) (by omega)
      go_wp2
      go_region
      go_wp2
      go_region
      clear e1 e2 e3 e4
      go_wp2
      go_roundw
      case rel =>
        refine ⟨1, by omega, by go_num, ?_, ?_, ?_⟩
        · exact (((HP.out.put 1 (.int .i64 (a0 + c0)) (cP (m + em) (a0 + c0) b0 a1 b1 a2 b2) rfl).put 2 (.int .i64 (b0 + d0)) _ rfl).drew).drew
        · exact (((HL.out.other hne2 _).other hne2 _).drew).drew
        · exact grown_drew (grown_drew (grown_put (grown_put HG.out _ _) _ _))
      case measure => simp [intOf]
    · have p1 : wr.cell? ⟨g, 3, none⟩ = some (.int .i64 a1) := hp.cell rfl
      have p2 : wr.cell? ⟨g, 4, none⟩ = some (.int .i64 b1) := hp.cell rfl
      have f1 := F 3
      have f2 := F 4
      clear F hp
      have e1 := wrapI c1 (by omega) (by omega)
      have e2 := wrapI (a1 + c1) (by omega) (by omega)
      have e3 := wrapI d1 (by omega) (by omega)
      have e4 := wrapI (b1 + d1) (by omega) (by omega)
      go_wp2
      go_region
      go_wp2
      go_region
      clear e1 e2 e3 e4
      go_wp2
      go_roundw
      case rel =>
        refine ⟨2, by omega, by go_num, ?_, ?_, ?_⟩
        · exact (((HP.out.put 3 (.int .i64 (a1 + c1)) (cP (m + em) (a0 + c0) (b0 + d0) (a1 + c1) b1 a2 b2) rfl).put 4 (.int .i64 (b1 + d1)) _ rfl).drew).drew
        · exact (((HL.out.other hne2 _).other hne2 _).drew).drew
        · exact grown_drew (grown_drew (grown_put (grown_put HG.out _ _) _ _))
      case measure => simp [intOf]
    · have p1 : wr.cell? ⟨g, 5, none⟩ = some (.int .i64 a2) := hp.cell rfl
      have p2 : wr.cell? ⟨g, 6, none⟩ = some (.int .i64 b2) := hp.cell rfl
      have f1 := F 5
      have f2 := F 6
      clear F hp
      have e1 := wrapI c2 (by omega) (by omega)
      have e2 := wrapI (a2 + c2) (by omega) (by omega)
      have e3 := wrapI d2 (by omega) (by omega)
      have e4 := wrapI (b2 + d2) (by omega) (by omega)
      go_wp2
      go_region
      go_wp2
      go_region
      clear e1 e2 e3 e4
      go_wp2
      go_roundw
      case rel =>
        refine ⟨3, by omega, by go_num, ?_, ?_, ?_⟩
        · exact (((HP.out.put 5 (.int .i64 (a2 + c2)) (cP (m + em) (a0 + c0) (b0 + d0) (a1 + c1) (b1 + d1) (a2 + c2) b2) rfl).put 6 (.int .i64 (b2 + d2)) _ rfl).drew).drew
        · exact (((HL.out.other hne2 _).other hne2 _).drew).drew
        · exact grown_drew (grown_drew (grown_put (grown_put HG.out _ _) _ _))
      case measure => simp [intOf]
    · clear F hp
      go_wp2
      refine bodyPost_end (v := .tuple #[]) (by simp [results, Try.results32, go_sem]) rfl ⟨rfl, HP.out, HG.out⟩
end Go.Proofs.Ythpnikalelookaa
