/-
  Walks of chapter 7, seventh part: total, Total, Value.
-/
import Derived.Test.YtlkfcbdbieenhaaCropW6
namespace Go.Proofs.Ytlkfcbdbieenhaa
open Go.RowKit

set_option maxHeartbeats 2000000 in
theorem total_any (s1 s2 s3 : Int) (A : Option Addr) (n cap B : Nat) (ws : List Int) (A2 : Option Addr) (n2 cap2 B2 : Nat) (bs : List Bl) (w : World) (h : Sl eI 1 w B A n ws) (hB : B ≤ w.heap.size) (hcap : n ≤ cap) (hs : 1 ≤ s1 ∧ s2 ≤ 600) (hs3 : 0 ≤ s3 ∧ s3 ≤ 20) (hn : n ≤ 200000) (hw : ∀ x ∈ ws, -1 ≤ x ∧ x ≤ 1000)
    (h2 : Sl eII 2 w B2 A2 n2 bs) (hB2 : B2 ≤ w.heap.size) (hn2 : n2 ≤ 100000) :
    Calls Try.prog 60 #[vB s1 s2 s3 A n cap, .slice A2 n2 cap2] w fun e w' => e = .returned (.tuple #[.int .i64 (totF s1 s2 s3 ws bs).1, .bool (totF s1 s2 s3 ws bs).2]) ∧ Below w.heap.size w w' := by
  have hlen := h.len
  have hlen2 := h2.len
  have HW := Lib.hid hw
  have VA := Lib.hid (fun W (hb : Below w.heap.size w W) f t => value_any s1 s2 s3 A n cap B ws f t W (h.below (hb.mono hB)) (Nat.le_trans hB hb.size) hcap hs hn hw)
  clear hw
  unfold vB at *
  go_enter Try.func60, Try.ntmps60
  go_wp2
  go_loopw [4, 12] (fun s i wr => ∃ k : Nat, k ≤ n2 ∧ i = .int .i64 k ∧ s = .int .i64 (sumV s1 s2 ws (bs.take k)) ∧ (∀ j, j < k → okAt s1 s2 s3 ws bs j = true) ∧ Below w.heap.size w wr ∧ Bk wr w.heap.size 108 #[.int .i64 s1, .int .i64 s2, .int .i64 s3, .slice A n cap]) (fun _ i _ => n2 - (intOf i).toNat)
  case atStart => exact ⟨0, Nat.zero_le _, rfl, rfl, fun j hj => absurd hj (by omega), ba (Below.refl _ _), Bk.newAt w _ _ w.heap.size rfl⟩
  case round =>
    obtain ⟨k, hk, rfl, rfl, hok, hbl, hbk⟩ := hrel
    have HK := Lib.hid hok
    have HB := Lib.hid hbl
    have HBK := Lib.hid hbk
    have hsb := sumV_bd (s1 := s1) hs.2 HW.out (bs.take k)
    have htl : (bs.take k).length ≤ k := List.length_take_le _ _
    clear hok
    by_cases hlt : k < n2
    · obtain ⟨x, hx⟩ := h2.get hlt
      obtain ⟨b, off, rfl, hb, c1, c2⟩ := (h2.below (hbl.mono hB2)).at2 hx
      obtain ⟨x1, x2⟩ := x
      have HX := Lib.hid hx
      have hgd := getD_of hx
      simp only at c1 c2
      have hvb := valF_bd (s1 := s1) (f := x1) (t := x2) hs.2 HW.out
      have SN := Lib.hid (sumV_snoc s1 s2 ws (bs.take k) (x1, x2))
      have OK0 := Lib.hid (show okAt s1 s2 s3 ws bs k = ((valF s1 s2 ws x1 x2).2 && (decide (k = 0) || decide ((bs.getD (k - 1) (0, 0)).2 + s3 ≤ x1))) by unfold okAt; rw [hgd])
      have V := Lib.hid (fun W (hb : Below w.heap.size w W) => VA.out W hb x1 x2)
      clear hx hgd
      generalize sumV s1 s2 ws (bs.take k) = sm at *
      have hbw : b < wr.heap.size := by have := hbl.size; omega
      have hw0 : w.heap.size < wr.heap.size := hbk.lt
      obtain ⟨⟨p0, p1, p2, p3⟩, -⟩ := hbk.c4
      cases hv2 : (valF s1 s2 ws x1 x2).2
      · rw [hv2] at V OK0
        have HT := Lib.hid (totF_no (bs := bs) (k := k) (by omega) (OK0.out.trans (Bool.false_and _)))
        clear hv2 SN OK0
        generalize (valF s1 s2 ws x1 x2).1 = v1 at *
        go_wp2_with fail
        refine (V.out _ (ba hbl)).mono ?_
        rintro e w1 ⟨rfl, hb1⟩
        have hbb : Below w.heap.size w w1 := (ba hbl).trans (hb1.mono (ba hbl).size)
        clear hb1 p0 p1 p2 p3 hbl hbk
        go_wp2_with fail
        go_quiet (fail)
        go_wp2
        go_ret2
        exact ⟨by rw [HT.out]; rfl, below_drewN hbb _⟩
      · rw [hv2] at V OK0
        have hvo := valF_ok hv2
        clear hv2
        have NX := Lib.hid (fun W (hb : Below w.heap.size w W) (hk : Bk W w.heap.size 108 #[.int .i64 s1, .int .i64 s2, .int .i64 s3, .slice A n cap]) (hok : okAt s1 s2 s3 ws bs k = true) => show ∃ k' : Nat, k' ≤ n2 ∧ Value.int .i64 ((k : Int) + 1) = .int .i64 k' ∧ Value.int .i64 (sm + (valF s1 s2 ws x1 x2).1) = .int .i64 (sumV s1 s2 ws (bs.take k')) ∧ (∀ j, j < k' → okAt s1 s2 s3 ws bs j = true) ∧ Below w.heap.size w W ∧ Bk W w.heap.size 108 #[.int .i64 s1, .int .i64 s2, .int .i64 s3, .slice A n cap] from
          ⟨k + 1, by omega, by go_num, by rw [take_snoc HX.out, SN.out], fun j hj => by
            rcases (by omega : j < k ∨ j = k) with hj | rfl
            · exact HK.out j hj
            · exact hok, hb, hk⟩)
        clear SN
        generalize (valF s1 s2 ws x1 x2).1 = v1 at *
        by_cases hk0 : k = 0
        · have hkd : decide (0 < k) = false := by simp; omega
          have OKT := Lib.hid (show okAt s1 s2 s3 ws bs k = true by rw [OK0.out]; simp [hk0])
          clear OK0 hk0
          go_wp2_with fail
          refine (V.out _ (ba hbl)).mono ?_
          rintro e w1 ⟨rfl, hb1⟩
          have hbb : Below w.heap.size w w1 := (ba hbl).trans (hb1.mono (ba hbl).size)
          have HKW := Lib.hid ((HBK.out.alloc (.cells #[.int .i64 x1, .int .i64 x2] 49)).below hb1 (by simp <;> omega))
          clear hb1 p0 p1 p2 p3 hbl hbk
          go_wp2_with fail
          go_quiet (fail)
          go_wp2
          go_roundw
          case rel => exact NX.out _ (below_drewN hbb _) (HKW.out.drewN _) OKT.out
          case measure => simp [intOf]; omega
        · obtain ⟨q, rfl⟩ : ∃ q, k = q + 1 := ⟨k - 1, by omega⟩
          obtain ⟨y, hy⟩ := h2.get (k := q) (by omega)
          obtain ⟨y1, y2⟩ := y
          have hyd := getD_of hy
          have hyo : (valF s1 s2 ws y1 y2).2 = true := by
            have := HK.out q (by omega)
            unfold okAt at this
            rw [hyd, Bool.and_eq_true] at this
            exact this.1
          have hyv := valF_ok hyo
          have hkd : decide ((0 : Int) < ((q + 1 : Nat) : Int)) = true := by simp <;> omega
          have OKE := Lib.hid (show okAt s1 s2 s3 ws bs (q + 1) = decide (y2 + s3 ≤ x1) by
            rw [OK0.out, show q + 1 - 1 = q from rfl, hyd]
            simp)
          clear OK0 hyo
          have HP := Lib.hid (fun W (hb : Below w.heap.size w W) => show W.cell? ⟨b, off + q * 2 + 1, none⟩ = some (.int .i64 y2) from by
            obtain ⟨b', off', e, _, _, c3⟩ := (h2.below (hb.mono hB2)).at2 hy
            injection e with e
            injection e with e1 e2
            subst e1 e2
            exact c3)
          clear hy hyd
          have i1 : (0 : Int) ≤ ((q + 1 : Nat) : Int) - 1 := by omega
          have i2 : ((q + 1 : Nat) : Int) - 1 < (n2 : Int) := by omega
          by_cases hlow : x1 < y2 + s3
          all_goals
            go_wp2_with fail
            refine (V.out _ (ba hbl)).mono ?_
            rintro e w1 ⟨rfl, hb1⟩
            have hbb : Below w.heap.size w w1 := (ba hbl).trans (hb1.mono (ba hbl).size)
            have hkw := (HBK.out.alloc (.cells #[.int .i64 x1, .int .i64 x2] 49)).below hb1 (by simp <;> omega)
            have HKW := Lib.hid hkw
            have z2 : w1.cell? ⟨w.heap.size, 2, none⟩ = some (.int .i64 s3) := hkw.cell rfl
            have z0 : w1.cell? ⟨wr.heap.size, 0, none⟩ = some (.int .i64 x1) := ((Bk.newAt wr #[.int .i64 x1, .int .i64 x2] 49 wr.heap.size rfl).below hb1 (by simp)).cell rfl
            have zy := HP.out w1 hbb
            clear hb1 p0 p1 p2 p3 hbl hbk hkw
            go_wp2_with fail
            go_quiet (fail)
            go_wp2
          · have HT := Lib.hid (totF_no (bs := bs) (k := q + 1) (by omega) (OKE.out.trans (by simp; omega)))
            go_ret2
            exact ⟨by rw [HT.out]; rfl, below_drewN hbb _⟩
          · go_roundw
            case rel => exact NX.out _ (below_drewN hbb _) (HKW.out.drewN _) (OKE.out.trans (by simp; omega))
            case measure => simp [intOf]; omega
    · have ht : bs.take k = bs := List.take_of_length_le (by omega)
      rw [ht]
      have HT := Lib.hid (totF_yes (bs := bs) (fun j hj => HK.out j (by omega)))
      clear ht
      go_wp2
      go_ret2
      exact ⟨by rw [HT.out]; rfl, HB.out⟩
end Go.Proofs.Ytlkfcbdbieenhaa
