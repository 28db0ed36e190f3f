/-
  Walks of chapter 7, eighth part: Total, Value.
-/
import Derived.Test.YtlkfcbdbieenhaaCropW7
namespace Go.Proofs.Ytlkfcbdbieenhaa
open Go.RowKit

theorem Own.le {α : Type} {enc : α → List Value} {c : Nat} {e : TypeId} {base : Nat} {w : World} {A : Option Addr} {n cap : Nat} {xs : List α} (h : Own enc c e base w A n cap xs) : n ≤ cap := by
  rcases h.2.2 with ⟨hv, h0⟩ | ⟨g, cp, cur, hv, _, _, hle, _⟩
  · injection hv with h1 h2 h3
    omega
  · injection hv with h1 h2 h3
    omega

theorem wF_in {l : List St} (h : l.any badSt = false) : ∀ x ∈ wF l, -1 ≤ x ∧ x ≤ 1000 := fun x hx => by
  obtain ⟨y, hy, hx⟩ := List.mem_flatMap.1 hx
  have := List.any_eq_false.1 h y hy
  rw [(List.mem_replicate.1 hx).2]
  simp [badSt, inB] at this
  omega

/-- What Total returns. -/
def totalF (l : List St) (s1 s2 s3 : Int) (bs : List Bl) : Int × Int :=
  if checkF l (s1, s2, s3) ≠ 0 then (0, checkF l (s1, s2, s3)) else if (totF s1 s2 s3 (wF l) bs).2 then ((totF s1 s2 s3 (wF l) bs).1, 0) else (0, 71)

set_option maxHeartbeats 1000000 in
theorem bigTotal_any (A : Option Addr) (n cap B : Nat) (l : List St) (s1 s2 s3 : Int) (A2 : Option Addr) (n2 cap2 B2 : Nat) (bs : List Bl) (w : World) (h : Sl eII 2 w B A n l) (hB : B ≤ w.heap.size) (hn : n ≤ 1000000)
    (h2 : Sl eII 2 w B2 A2 n2 bs) (hB2 : B2 ≤ w.heap.size) (hn2 : n2 ≤ 100000) :
    Calls Try.prog 25 #[.slice A n cap, .agg #[.int .i64 s1, .int .i64 s2, .int .i64 s3], .slice A2 n2 cap2] w fun e w' => e = .returned (.tuple #[.int .i64 (totalF l s1 s2 s3 bs).1, .int .i64 (totalF l s1 s2 s3 bs).2]) ∧ Below w.heap.size w w' := by
  have hlen := h.len
  have b0 : Below w.heap.size w (w.alloc (.cells #[.int .i64 s1, .int .i64 s2, .int .i64 s3] 24)) := (Below.refl _ _).alloc (Nat.le_refl _) _
  have k0 : Bk (w.alloc (.cells #[.int .i64 s1, .int .i64 s2, .int .i64 s3] 24)) w.heap.size 24 #[.int .i64 s1, .int .i64 s2, .int .i64 s3] := Bk.newAt w _ _ _ rfl
  have CK := Lib.hid (check_any A n cap B l s1 s2 s3 _ (h.below (b0.mono hB)) (Nat.le_trans hB b0.size) hn)
  have B0 := Lib.hid b0
  have K0 := Lib.hid k0
  clear b0 k0
  by_cases hc : checkF l (s1, s2, s3) = 0
  · have hok := checkF_ok hc
    have HC := Lib.hid hc
    have T := Lib.hid (fun W A5 n5 cap5 (hb : Below w.heap.size w W) (ho : Own eI 1 3 W.heap.size W A5 n5 cap5 (wF l) ∨ Sl eI 1 W W.heap.size A5 n5 (wF l) ∧ n5 ≤ cap5) (hn5 : n5 ≤ 200000) => show Calls Try.prog 60 #[.agg #[.int .i64 s1, .int .i64 s2, .int .i64 s3, .slice A5 n5 cap5], .slice A2 n2 cap2] W fun e w' => e = .returned (.tuple #[.int .i64 (totF s1 s2 s3 (wF l) bs).1, .bool (totF s1 s2 s3 (wF l) bs).2]) ∧ Below W.heap.size W w' from
      total_any s1 s2 s3 A5 n5 cap5 W.heap.size (wF l) A2 n2 cap2 B2 bs W (ho.elim (fun o => o.sl enc1) (·.1)) (Nat.le_refl _) (ho.elim (fun o => o.le) (·.2)) (by omega) (by omega) hn5 (wF_in hok.2.1) (h2.below (hb.mono hB2)) (Nat.le_trans hB2 hb.size) hn2)
    have hwl := wF_len l hok.2.1
    have HE : totalF l s1 s2 s3 bs = if (totF s1 s2 s3 (wF l) bs).2 then ((totF s1 s2 s3 (wF l) bs).1, 0) else (0, 71) := if_neg (by simp [hc])
    have HF := Lib.hid HE
    clear HE
    generalize totF s1 s2 s3 (wF l) bs = tt at T HF
    obtain ⟨tv, tb⟩ := tt
    cases tb
    all_goals
      go_enter Try.func25, Try.ntmps25
      go_wp2_with (first | (go_at_call 24; refine CK.out.mono ?_; rintro e w1 ⟨rfl, hb1⟩; rw [HC.out]; have bl1 := B0.out.trans (hb1.mono B0.out.size); obtain ⟨⟨c1, c2, c3⟩, _⟩ := (K0.out.below hb1 K0.out.lt).c3) | (go_at_call 48; refine (newBoule_any A n cap B l s1 s2 s3 w1 (h.below (bl1.mono hB)) (Nat.le_trans hB bl1.size) (by omega) hok.2.1).mono ?_; rintro e w2 ⟨A5, n5, cap5, rfl, hown, hb2⟩; have hsl := hown.sl enc1; have bl2 := bl1.trans (hb2.mono bl1.size)) | (go_at_call 60; refine (T.out w2 A5 n5 cap5 bl2 (.inr ⟨hsl, hown.le⟩) (by have := hsl.len; omega)).mono ?_; rintro e w3 ⟨rfl, hb3⟩))
      go_ret2
      exact ⟨by rw [HF.out]; rfl, bl2.trans (hb3.mono bl2.size)⟩
  · have HE : totalF l s1 s2 s3 bs = (0, checkF l (s1, s2, s3)) := if_pos hc
    generalize checkF l (s1, s2, s3) = z at *
    have HF := Lib.hid HE
    have hd : decide (z = 0) = false := by simpa using hc
    clear HE
    go_enter Try.func25, Try.ntmps25
    go_wp2_with (go_at_call 24; refine CK.out.mono ?_; rintro e w1 ⟨rfl, hb1⟩)
    go_ret2
    exact ⟨by rw [HF.out]; rfl, B0.out.trans (hb1.mono B0.out.size)⟩
end Go.Proofs.Ytlkfcbdbieenhaa
