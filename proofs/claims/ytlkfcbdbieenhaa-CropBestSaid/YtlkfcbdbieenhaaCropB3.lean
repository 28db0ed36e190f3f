/-
  Walks of chapter 7, the best cropping: blocks, and what it yields.
-/
import Derived.Test.YtlkfcbdbieenhaaCropB2
import Derived.RangeFuncNested
import Derived.RangeFuncBound
import Derived.RangeFuncCalls
import Derived.RangeFuncLeaves
import Derived.Shelf.Abstract
import Derived.Shelf.RegionOpen
import Derived.WalkKit
import Derived.OwnWalkIn
import Derived.TacticsInMore
import Derived.LoopNIn
import Derived.LoopIn
namespace Go.Proofs.Ytlkfcbdbieenhaa
open Go.RowKit Go.Shelf

attribute [local go_sem] Oper.semAt_some

set_option maxHeartbeats 400000 in
theorem blocks_any (s1 s2 s3 : Int) (A : Option Addr) (n cap : Nat) (f : Int) (w : World) :
    Calls Try.prog 66 #[vB s1 s2 s3 A n cap, .int .i64 f] w fun e w' => e = .returned (.func (.func 83) #[] #[.pointer (some ⟨w.heap.size + 1, 0, none⟩), .pointer (some ⟨w.heap.size, 0, none⟩)]) ∧ w' = (w.alloc (.cells #[.int .i64 s1, .int .i64 s2, .int .i64 s3, .slice A n cap] 108)).alloc (.cells #[.int .i64 f] 3) := by
  unfold vB
  go_enter Try.func66, Try.ntmps66
  go_wp2
  go_ret
  exact ⟨rfl, rfl⟩

/-- What was there in some blocks is there. -/
def KeepsOn (S : Nat → Prop) (W W' : World) : Prop := ∀ k o, S k → W.heap[k]? = some o → W'.heap[k]? = some o
theorem KeepsOn.refl (S : Nat → Prop) (W : World) : KeepsOn S W W := fun _ _ _ h => h
theorem KeepsOn.trans {S : Nat → Prop} {X Y Z : World} (h : KeepsOn S X Y) (k : KeepsOn S Y Z) : KeepsOn S X Z := fun i o hi ho => k i o hi (h i o hi ho)
theorem KeepsOn.bk {S : Nat → Prop} {W W' : World} (h : KeepsOn S W W') {g : Nat} {t : TypeId} {cs : Array Value} (hg : S g) (hb : Bk W g t cs) : Bk W' g t cs := h g _ hg hb

set_option maxRecDepth 100000 in
set_option maxHeartbeats 4000000 in
/-- The iterator: for every body that keeps the boule, the place and the row of worth. -/
theorem blocks1_in (n : Nat) (hn : 1 ≤ n) (l Bf Bb b off cap5 N f : Nat) (S : Nat → Prop) (hSf : S Bf) (hSb : S Bb) (hSw : S b) (s1 s2 s3 : Int) (ws : List Int) (hs : 1 ≤ s1 ∧ s1 ≤ s2 ∧ s2 ≤ 600) (hN : ws.length = N) (hN3 : N ≤ 3000) (hf : f < N) (hw : ∀ x ∈ ws, -1 ≤ x ∧ x ≤ 1000)
    (J Jx : List (Yf f N) → World → Prop)
    (hY : ∀ pre x W, J pre W → pre.length < N → YieldAt Fence.wide (n - 1) Try.prog l #[.agg #[.int .i64 x.1.1, .int .i64 x.1.2.1], .int .i64 x.1.2.2] W fun e W' =>
      (e = .returned (.bool true) ∧ J (pre ++ [x]) W' ∧ KeepsOn S W W') ∨ (e = .returned (.bool false) ∧ Jx (pre ++ [x]) W'))
    (W : World) (hBf : Bk W Bf 3 #[.int .i64 f]) (hBb : Bk W Bb 108 #[.int .i64 s1, .int .i64 s2, .int .i64 s3, .slice (some ⟨b, off, none⟩) N cap5])
    (hBw : ∃ o, W.heap[b]? = some o ∧ ∀ W' : World, W'.heap[b]? = some o → Sl eI 1 W' (b + 1) (some ⟨b, off, none⟩) N ws) (h0 : J [] W) :
    CallsIn Fence.wide n Try.prog 83 #[.func (.yield l) #[] #[], .pointer (some ⟨Bf, 0, none⟩), .pointer (some ⟨Bb, 0, none⟩)] W fun e W' => (∃ v, e = .returned v) ∧
      ((∃ ys : List (Yf f N), ys.map Subtype.val = yF ws s1 s2 f ∧ J ys W') ∨ (∃ pre, Jx pre W')) := by
  obtain ⟨oW, hoW, hSl⟩ := hBw
  have HSL := Lib.hid (fun (W' : World) (hk : KeepsOn S W W') => hSl W' (hk b oW hSw hoW))
  have HBF := Lib.hid (fun (W' : World) (hk : KeepsOn S W W') => hk.bk hSf hBf)
  have HBB := Lib.hid (fun (W' : World) (hk : KeepsOn S W W') => hk.bk hSb hBb)
  have HY := Lib.hid hY
  have HH0 := Lib.hid h0
  have HWS := Lib.hid hw
  have HNN := Lib.hid hN
  clear hY h0 hSl hoW hw hN
  obtain ⟨L, hL⟩ : ∃ L, farF N s2 f = L := ⟨_, rfl⟩
  have hLb : (L : Int) = min s2 ((N : Int) - f) := by unfold farF at hL; omega
  have HLB := Lib.hid hLb
  have HL := Lib.hid hL
  clear hL hLb
  have hbf := hBf.cell (j := 0) rfl
  clear hBf hBb
  refine callsIn_of_wp Try.func83 rfl trivial ?_ rfl
  simp only [Try.ntmps83, List.size_toArray, List.length_cons, List.length_nil, Nat.reduceAdd, Nat.reduceSub, Array.replicate_succ, Array.replicate_zero, List.push_toArray, List.append_toArray, List.nil_append, List.cons_append]
  gi_wp2
  gi_loopw [4, 5] (fun m t wr => ∃ (j : Nat) (pre : List (Yf f N)), j ≤ L ∧ m = .int .i64 (lsF ws f j) ∧ t = .int .i64 ((f : Int) + 1 + j) ∧ J pre wr ∧ pre.map Subtype.val = comeF ws s1 f j ∧ (∀ i, i < j → 0 ≤ lsF ws f (i + 1)) ∧ KeepsOn S W wr) (fun _ t _ => f + 1 + L + 1 - (intOf t).toNat)
  case atStart => exact ⟨0, [], Nat.zero_le _, by rw [lsF_zero], by simp, HH0.out, rfl, fun i hi => absurd hi (by omega), KeepsOn.refl _ _⟩
  case round =>
    obtain ⟨j, pre, hj, rfl, rfl, hJ, hpre, hnn, hk⟩ := hrel
    have HP := Lib.hid hpre
    have HNN2 := Lib.hid hnn
    have HK := Lib.hid hk
    have HJ := Lib.hid hJ
    have bf := (HBF.out wr hk).cell (j := 0) rfl
    obtain ⟨⟨b0, b1, b2, b3⟩, -⟩ := (HBB.out wr hk).c4
    have hsl := HSL.out wr hk
    clear hpre hnn hk hJ hbf
    by_cases hlt : j < L
    · have hLb := HLB.out
      obtain ⟨x, hx⟩ := hsl.get (k := f + j) (by omega)
      obtain ⟨b', off', e, _, d1⟩ := hsl.at1 hx
      injection e with e
      injection e with e1 e2
      subst e1 e2
      have hx1 := HWS.out x (List.mem_of_getElem? hx)
      have HLS := Lib.hid (lsF_succ hx)
      have hm := lsF_bd HWS.out f j
      have hm2 := lsF_bd HWS.out f (j + 1)
      clear hx hsl
      have ht1 : (f : Int) + 1 + j ≤ N := by omega
      have ht2 : (f : Int) + 1 + j ≤ f + s2 := by omega
      clear hLb
      by_cases hfar : (N : Int) < f + s2
      all_goals
        by_cases hxm : x < lsF ws f j
        · have HLX := Lib.hid (show lsF ws f (j + 1) = x by rw [HLS.out]; omega)
          by_cases hneg : x < 0
          · generalize hgm : lsF ws f j = m at *
            clear hgm
            gi_wp2
            refine bodyPost_ret (results_none rfl _ _ _) rfl ⟨⟨_, rfl⟩, .inl ⟨pre, ?_, HJ.out⟩⟩
            rw [HP.out, yF, HNN.out, HL.out, roundsF_stop HNN2.out (by rw [HLX.out]; exact hneg) L hj]
          · have hbd : 0 ≤ ((j : Int) + 1) * x ∧ ((j : Int) + 1) * x ≤ 1000 * ((j : Int) + 1) := ⟨Int.mul_nonneg (by omega) (by omega), by rw [Int.mul_comm]; exact Int.mul_le_mul_of_nonneg_right (by omega) (by omega)⟩
            by_cases hlong : s1 ≤ (j : Int) + 1
            · have hin : okY f N ((f : Int), (f : Int) + 1 + j, ((j : Int) + 1) * x) := ⟨rfl, by simp only; omega, by simp only; omega, hbd.1, by simp only; omega⟩
              have hwv : wrap64 (((f : Int) + 1 + j - f) * x) = ((j : Int) + 1) * x := by rw [show ((f : Int) + 1 + j - f) = (j : Int) + 1 from by omega]; exact IntWalk.wrap64_in _ ⟨by omega, by omega⟩
              obtain ⟨fn, tmps, assign, body, hy, hR⟩ := HY.out pre ⟨_, hin⟩ wr HJ.out (by have h1 := comeF_len ws s1 f j; rw [← HP.out, List.length_map] at h1; omega)
              dsimp only at hy
              rw [← hwv] at hy
              have HC := Lib.hid (show (pre ++ [(⟨_, hin⟩ : Yf f N)]).map Subtype.val = comeF ws s1 f (j + 1) by rw [List.map_append, HP.out, comeF_succ, if_pos hlong, HLX.out]; rfl)
              have HNX := Lib.hid (show ∀ i, i < j + 1 → 0 ≤ lsF ws f (i + 1) from fun i hi => by
                rcases (by omega : i < j ∨ i = j) with hi | rfl
                · exact HNN2.out i hi
                · rw [HLX.out]; omega)
              have HR := Lib.hid hR
              clear hwv hR hbd
              generalize hgm : lsF ws f j = m at *
              clear hgm
              gi_wp2
              refine HR.out.mono ?_
              rintro e W3 (⟨rfl, hJ3, hk3⟩ | ⟨rfl, hJx3⟩)
              · have HJ3 := Lib.hid hJ3
                have HK3 := Lib.hid hk3
                clear hJ3 hk3
                gi_wp2
                go_roundw
                case rel => exact ⟨j + 1, _, by omega, by rw [HLX.out], by go_num, HJ3.out, HC.out, HNX.out, HK.out.trans HK3.out⟩
                case measure => simp [intOf]; omega
              · gi_wp2
                refine bodyPost_ret (results_none rfl _ _ _) rfl ?_
                exact ⟨⟨_, rfl⟩, .inr ⟨_, hJx3⟩⟩
            · have hlong2 : decide (s1 ≤ (f : Int) + 1 + j - f) = false := decide_eq_false (by omega)
              have HC := Lib.hid (show pre.map Subtype.val = comeF ws s1 f (j + 1) by rw [HP.out, comeF_succ, if_neg hlong, List.append_nil])
              have HNX := Lib.hid (show ∀ i, i < j + 1 → 0 ≤ lsF ws f (i + 1) from fun i hi => by
                rcases (by omega : i < j ∨ i = j) with hi | rfl
                · exact HNN2.out i hi
                · rw [HLX.out]; omega)
              clear hbd
              generalize hgm : lsF ws f j = m at *
              clear hgm
              gi_wp2
              refine ⟨fun _ h => (by cases h), ?_⟩
              gi_wp2
              go_roundw
              case rel => exact ⟨j + 1, _, by omega, by rw [HLX.out], by go_num, HJ.out, HC.out, HNX.out, HK.out⟩
              case measure => simp [intOf]; omega
        · have HLX := Lib.hid (show lsF ws f (j + 1) = lsF ws f j by rw [HLS.out]; omega)
          generalize hgm0 : lsF ws f j = m0 at *
          by_cases hneg : m0 < 0
          · skip
            skip
            gi_wp2
            refine bodyPost_ret (results_none rfl _ _ _) rfl ⟨⟨_, rfl⟩, .inl ⟨pre, ?_, HJ.out⟩⟩
            rw [HP.out, yF, HNN.out, HL.out, roundsF_stop HNN2.out (by rw [HLX.out]; exact hneg) L hj]
          · have hbd : 0 ≤ ((j : Int) + 1) * m0 ∧ ((j : Int) + 1) * m0 ≤ 1000 * ((j : Int) + 1) := ⟨Int.mul_nonneg (by omega) (by omega), by rw [Int.mul_comm]; exact Int.mul_le_mul_of_nonneg_right (by omega) (by omega)⟩
            by_cases hlong : s1 ≤ (j : Int) + 1
            · have hin : okY f N ((f : Int), (f : Int) + 1 + j, ((j : Int) + 1) * m0) := ⟨rfl, by simp only; omega, by simp only; omega, hbd.1, by simp only; omega⟩
              have hwv : wrap64 (((f : Int) + 1 + j - f) * m0) = ((j : Int) + 1) * m0 := by rw [show ((f : Int) + 1 + j - f) = (j : Int) + 1 from by omega]; exact IntWalk.wrap64_in _ ⟨by omega, by omega⟩
              obtain ⟨fn, tmps, assign, body, hy, hR⟩ := HY.out pre ⟨_, hin⟩ wr HJ.out (by have h1 := comeF_len ws s1 f j; rw [← HP.out, List.length_map] at h1; omega)
              dsimp only at hy
              rw [← hwv] at hy
              have HC := Lib.hid (show (pre ++ [(⟨_, hin⟩ : Yf f N)]).map Subtype.val = comeF ws s1 f (j + 1) by rw [List.map_append, HP.out, comeF_succ, if_pos hlong, HLX.out]; rfl)
              have HNX := Lib.hid (show ∀ i, i < j + 1 → 0 ≤ lsF ws f (i + 1) from fun i hi => by
                rcases (by omega : i < j ∨ i = j) with hi | rfl
                · exact HNN2.out i hi
                · rw [HLX.out]; omega)
              have HR := Lib.hid hR
              clear hwv hR hbd
              skip
              skip
              gi_wp2
              refine HR.out.mono ?_
              rintro e W3 (⟨rfl, hJ3, hk3⟩ | ⟨rfl, hJx3⟩)
              · have HJ3 := Lib.hid hJ3
                have HK3 := Lib.hid hk3
                clear hJ3 hk3
                gi_wp2
                go_roundw
                case rel => exact ⟨j + 1, _, by omega, by rw [HLX.out], by go_num, HJ3.out, HC.out, HNX.out, HK.out.trans HK3.out⟩
                case measure => simp [intOf]; omega
              · gi_wp2
                refine bodyPost_ret (results_none rfl _ _ _) rfl ?_
                exact ⟨⟨_, rfl⟩, .inr ⟨_, hJx3⟩⟩
            · have hlong2 : decide (s1 ≤ (f : Int) + 1 + j - f) = false := decide_eq_false (by omega)
              have HC := Lib.hid (show pre.map Subtype.val = comeF ws s1 f (j + 1) by rw [HP.out, comeF_succ, if_neg hlong, List.append_nil])
              have HNX := Lib.hid (show ∀ i, i < j + 1 → 0 ≤ lsF ws f (i + 1) from fun i hi => by
                rcases (by omega : i < j ∨ i = j) with hi | rfl
                · exact HNN2.out i hi
                · rw [HLX.out]; omega)
              clear hbd
              skip
              skip
              gi_wp2
              refine ⟨fun _ h => (by cases h), ?_⟩
              gi_wp2
              go_roundw
              case rel => exact ⟨j + 1, _, by omega, by rw [HLX.out], by go_num, HJ.out, HC.out, HNX.out, HK.out⟩
              case measure => simp [intOf]; omega
    · obtain rfl : j = L := by omega
      have hLb := HLB.out
      have hto : ((N : Int) < f + s2 ∧ (N : Int) < f + 1 + j) ∨ ((f : Int) + s2 ≤ N ∧ (f : Int) + s2 < f + 1 + j) := by omega
      have HE := Lib.hid (show pre.map Subtype.val = yF ws s1 s2 f by rw [HP.out, yF, HNN.out, HL.out, roundsF_all HNN2.out])
      clear hLb hsl
      generalize hgm : lsF ws f j = m at *
      clear hgm
      rcases hto with ⟨hfar, hto⟩ | ⟨hfar, hto⟩
      all_goals
        gi_wp2
        go_end0
        exact ⟨⟨_, rfl⟩, .inl ⟨_, HE.out, HJ.out⟩⟩
end Go.Proofs.Ytlkfcbdbieenhaa
