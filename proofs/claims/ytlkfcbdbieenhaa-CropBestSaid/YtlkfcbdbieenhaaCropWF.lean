/-
  Walks of chapter 7: the reference's Cropping.
-/
import Derived.Test.YtlkfcbdbieenhaaCropWE
import Derived.Test.YtlkfcbdbieenhaaAft
namespace Go.Proofs.Ytlkfcbdbieenhaa
open Go.RowKit

set_option maxHeartbeats 4000000 in
theorem refCropping_any (A : Option Addr) (n cap B : Nat) (l : List St) (s1 s2 s3 : Int) (A2 : Option Addr) (n2 cap2 B2 : Nat) (bs : List Bl) (w : World) (h : Sl eII 2 w B A n l) (hB : B ≤ w.heap.size) (hn : n ≤ 1000) (hg : l.any badSt = false) (hlf : lenF l ≤ 3000) (hs3 : 0 ≤ s3 ∧ s3 ≤ 20)
    (h2 : Sl eII 2 w B2 A2 n2 bs) (hB2 : B2 ≤ w.heap.size) (hn2 : n2 ≤ 100000) :
    Calls Try.prog 29 #[.slice A n cap, .agg #[.int .i64 s1, .int .i64 s2, .int .i64 s3], .slice A2 n2 cap2] w fun e w' => e = .returned (.bool (rkF l s1 s2 s3 bs)) ∧ Below w.heap.size w w' := by
  have hlen2 := h2.len
  have RA := Lib.hid (fun W (hb : Below w.heap.size w W) f t => refAllowed_any A n cap B l s1 s2 s3 f t W (h.below (hb.mono hB)) (Nat.le_trans hB hb.size) hn hg (by omega))
  have b0 : Below w.heap.size w (w.alloc (.cells #[.int .i64 s1, .int .i64 s2, .int .i64 s3] 24)) := ba (Below.refl _ _)
  have k0 : Bk (w.alloc (.cells #[.int .i64 s1, .int .i64 s2, .int .i64 s3] 24)) w.heap.size 24 #[.int .i64 s1, .int .i64 s2, .int .i64 s3] := Bk.newAt w _ _ _ rfl
  have B0 := Lib.hid b0
  have K0 := Lib.hid k0
  clear b0 k0
  go_enter Try.func29, Try.ntmps29
  go_wp2
  go_loopw [7] (fun i wr => ∃ k : Nat, k ≤ n2 ∧ i = .int .i64 k ∧ (∀ j, j < k → rkAt l s1 s2 s3 bs j = true) ∧ Below w.heap.size w wr ∧ Bk wr w.heap.size 24 #[.int .i64 s1, .int .i64 s2, .int .i64 s3]) (fun i _ => n2 - (intOf i).toNat)
  case atStart => exact ⟨0, Nat.zero_le _, rfl, fun j hj => absurd hj (by omega), B0.out, K0.out⟩
  case round =>
    obtain ⟨k, hk, rfl, hok, hbl, hbk⟩ := hrel
    have HK := Lib.hid hok
    have HB := Lib.hid hbl
    have HBK := Lib.hid hbk
    clear hok
    by_cases hlt : k < n2
    · obtain ⟨x, hx⟩ := h2.get hlt
      obtain ⟨b, off, rfl, hb, c1, c2⟩ := (h2.below (hbl.mono hB2)).at2 hx
      obtain ⟨x1, x2⟩ := x
      have hgd := getD_of hx
      simp only at c1 c2
      have OK0 := Lib.hid (show rkAt l s1 s2 s3 bs k = (alF l s1 s2 x1 x2 && (decide (k = 0) || decide ((bs.getD (k - 1) (0, 0)).2 + s3 ≤ x1))) by unfold rkAt; rw [hgd])
      have V := Lib.hid (fun W (hb : Below w.heap.size w W) => RA.out W hb x1 x2)
      have hbw : b < wr.heap.size := by have := hbl.size; omega
      have hw0 : w.heap.size < wr.heap.size := hbk.lt
      obtain ⟨⟨p0, p1, p2⟩, -⟩ := hbk.c3
      have q0 := fun m : After wr => m.cell hw0 p0
      have q1 := fun m : After wr => m.cell hw0 p1
      have q2 := fun m : After wr => m.cell hw0 p2
      have q3 := fun m : After wr => m.cell hbw c1
      have q4 := fun m : After wr => m.cell hbw c2
      have NX := Lib.hid (fun W (hb : Below wr.heap.size wr W) (hok : rkAt l s1 s2 s3 bs k = true) => show ∃ k' : Nat, k' ≤ n2 ∧ Value.int .i64 ((k : Int) + 1) = .int .i64 k' ∧ (∀ j, j < k' → rkAt l s1 s2 s3 bs j = true) ∧ Below w.heap.size w W ∧ Bk W w.heap.size 24 #[.int .i64 s1, .int .i64 s2, .int .i64 s3] from
          ⟨k + 1, by omega, by go_num, fun j hj => by
            rcases (by omega : j < k ∨ j = k) with hj | rfl
            · exact HK.out j hj
            · exact hok, thru HB.out hb, HBK.out.below hb HBK.out.lt⟩)
      clear hx hgd p0 p1 p2 c1 c2
      cases hv2 : alF l s1 s2 x1 x2
      · rw [hv2] at V OK0
        have HT := Lib.hid (rkF_no (bs := bs) (k := k) (by omega) (OK0.out.trans (Bool.false_and _)))
        clear hv2 OK0 hbl hbk
        go_wp2_with fail
        refine wp_region_after (by kernel_rfl) (by kernel_rfl) ?_
        repeat (go_big_quiet_step ((go_at_call 27; exact Calls.after (V.out _ (thru HB.out (After.bel _))))))
        refine wpQuiet_nil ?_
        rintro _ ⟨⟨W, hW⟩, rfl⟩
        go_wp2
        go_ret
        exact ⟨ret_bool HT.out.symm, thru HB.out hW⟩
      · rw [hv2] at V OK0
        have hvo := al_out hv2
        clear hv2
        by_cases hk0 : k = 0
        · have hkd : decide (0 < k) = false := by simp; omega
          have OKT := Lib.hid (show rkAt l s1 s2 s3 bs k = true by rw [OK0.out]; simp [hk0])
          clear OK0 hk0 hbl hbk
          go_wp2_with fail
          refine wp_region_after (by kernel_rfl) (by kernel_rfl) ?_
          repeat (go_big_quiet_step ((go_at_call 27; exact Calls.after (V.out _ (thru HB.out (After.bel _))))))
          refine wpQuiet_nil ?_
          rintro _ ⟨⟨W, hW⟩, rfl⟩
          go_wp2
          go_roundw
          case rel => exact NX.out _ hW OKT.out
          case measure => simp [intOf]; omega
        · obtain ⟨q, rfl⟩ : ∃ q, k = q + 1 := ⟨k - 1, by omega⟩
          obtain ⟨y, hy⟩ := h2.get (k := q) (by omega)
          obtain ⟨y1, y2⟩ := y
          have hyd := getD_of hy
          have hyo : alF l s1 s2 y1 y2 = true := by
            have := HK.out q (by omega)
            unfold rkAt at this
            rw [hyd, Bool.and_eq_true] at this
            exact this.1
          have hyv := al_out hyo
          have hkd : decide ((0 : Int) < ((q + 1 : Nat) : Int)) = true := by simp <;> omega
          have OKE := Lib.hid (show rkAt l s1 s2 s3 bs (q + 1) = decide (y2 + s3 ≤ x1) by
            rw [OK0.out, show q + 1 - 1 = q from rfl, hyd]
            simp)
          clear OK0 hyo
          have q5 : ∀ m : After wr, m.W.cell? ⟨b, off + q * 2 + 1, none⟩ = some (.int .i64 y2) := fun m => by
            obtain ⟨b', off', e, _, _, c3⟩ := (h2.below (HB.out.mono hB2)).at2 hy
            injection e with e
            injection e with e1 e2
            subst e1 e2
            exact m.cell hbw c3
          clear hy hyd
          have i1 : (0 : Int) ≤ ((q + 1 : Nat) : Int) - 1 := by omega
          have i2 : ((q + 1 : Nat) : Int) - 1 < (n2 : Int) := by omega
          clear hbl hbk
          by_cases hlow : x1 < y2 + s3
          · have HT := Lib.hid (rkF_no (bs := bs) (k := q + 1) (by omega) (OKE.out.trans (by simp; omega)))
            go_wp2_with fail
            refine wp_region_after (by kernel_rfl) (by kernel_rfl) ?_
            repeat (go_big_quiet_step ((go_at_call 27; exact Calls.after (V.out _ (thru HB.out (After.bel _))))))
            refine wpQuiet_nil ?_
            rintro _ ⟨⟨W, hW⟩, rfl⟩
            go_wp2
            go_ret
            exact ⟨ret_bool HT.out.symm, thru HB.out hW⟩
          · go_wp2_with fail
            refine wp_region_after (by kernel_rfl) (by kernel_rfl) ?_
            repeat (go_big_quiet_step ((go_at_call 27; exact Calls.after (V.out _ (thru HB.out (After.bel _))))))
            refine wpQuiet_nil ?_
            rintro _ ⟨⟨W, hW⟩, rfl⟩
            go_wp2
            go_roundw
            case rel => exact NX.out _ hW (OKE.out.trans (by simp; omega))
            case measure => simp [intOf]; omega
    · have ht : bs.take k = bs := List.take_of_length_le (by omega)
      have HT := Lib.hid (rkF_yes (bs := bs) (fun j hj => HK.out j (by omega)))
      go_wp2
      go_ret
      exact ⟨ret_bool HT.out.symm, HB.out⟩
end Go.Proofs.Ytlkfcbdbieenhaa
