/-
  Walks of chapter 7: Account.
-/
import Derived.Test.YtlkfcbdbieenhaaCropWG
import Derived.Deep.DeepCutAuto
import Derived.Deep.CutBlock
namespace Go.Proofs.Ytlkfcbdbieenhaa
open Go.RowKit

/-- What Account returns. -/
def accF (l : List St) (s1 s2 s3 : Int) (bs : List Bl) : (Int × Int × Int) × Int :=
  if (totalF l s1 s2 s3 bs).2 ≠ 0 then ((0, 0, 0), (totalF l s1 s2 s3 bs).2) else (acF s3 (wF l).length bs, 0)
theorem totalF_ok {l : List St} {s1 s2 s3 : Int} {bs : List Bl} (h : (totalF l s1 s2 s3 bs).2 = 0) : checkF l (s1, s2, s3) = 0 ∧ rkF l s1 s2 s3 bs = true := by
  unfold totalF at h
  by_cases hc : checkF l (s1, s2, s3) = 0
  · have hok := checkF_ok hc
    refine ⟨hc, ?_⟩
    rw [if_neg (by simp [hc])] at h
    rw [← cr_rk hok.2.1 hok.2.2.2.1]
    unfold totF at h
    cases hb : crB s1 s2 s3 (wF l) bs
    · rw [hb] at h; simp at h
    · rfl
  · rw [if_pos hc] at h
    exact absurd h hc
theorem rk_in {l : List St} {s1 s2 s3 : Int} {bs : List Bl} (h : rkF l s1 s2 s3 bs = true) : inN (lenF l) bs := fun x hx => by
  have := al_out (rk_mem h x hx)
  omega

set_option maxRecDepth 100000 in
set_option maxHeartbeats 4000000 in
theorem account_any (A : Option Addr) (n cap B : Nat) (l : List St) (s1 s2 s3 : Int) (A2 : Option Addr) (n2 cap2 B2 : Nat) (bs : List Bl) (w : World) (h : Sl eII 2 w B A n l) (hB : B ≤ w.heap.size) (hn : n ≤ 1000000)
    (h2 : Sl eII 2 w B2 A2 n2 bs) (hB2 : B2 ≤ w.heap.size) (hn2 : n2 ≤ 100000) :
    Calls Try.prog 22 #[.slice A n cap, .agg #[.int .i64 s1, .int .i64 s2, .int .i64 s3], .slice A2 n2 cap2] w fun e w' => e = .returned (.tuple #[acV (accF l s1 s2 s3 bs).1, .int .i64 (accF l s1 s2 s3 bs).2]) ∧ Below w.heap.size w w' := by
  have hlen := h.len
  have hlen2 := h2.len
  have b0 : Below w.heap.size w ((w.alloc (.cells #[.int .i64 s1, .int .i64 s2, .int .i64 s3] 24)).alloc (.cells #[.int .i64 0, .int .i64 0, .int .i64 0] 45)) := ba (ba (Below.refl _ _))
  have k0 : Bk ((w.alloc (.cells #[.int .i64 s1, .int .i64 s2, .int .i64 s3] 24)).alloc (.cells #[.int .i64 0, .int .i64 0, .int .i64 0] 45)) w.heap.size 24 #[.int .i64 s1, .int .i64 s2, .int .i64 s3] := (Bk.newAt w _ _ _ rfl).alloc _
  have r0 : Bk ((w.alloc (.cells #[.int .i64 s1, .int .i64 s2, .int .i64 s3] 24)).alloc (.cells #[.int .i64 0, .int .i64 0, .int .i64 0] 45)) (w.heap.size + 1) 45 #[.int .i64 0, .int .i64 0, .int .i64 0] := Bk.newAt _ _ _ _ (by simp)
  have T := Lib.hid (bigTotal_any A n cap B l s1 s2 s3 A2 n2 cap2 B2 bs _ (h.below (b0.mono hB)) (Nat.le_trans hB b0.size) hn (h2.below (b0.mono hB2)) (Nat.le_trans hB2 b0.size) hn2)
  have B0 := Lib.hid b0
  have K0 := Lib.hid k0
  have R0 := Lib.hid r0
  by_cases he : (totalF l s1 s2 s3 bs).2 = 0
  · have htk := totalF_ok he
    have hok := checkF_ok htk.1
    have HN := Lib.hid (rk_in htk.2)
    have HF := Lib.hid (show accF l s1 s2 s3 bs = (acF s3 (wF l).length bs, 0) from if_neg (by simp [he]))
    have HE := Lib.hid he
    have hwl := wF_len l hok.2.1
    obtain ⟨bi, hi, hz, hs, hby⟩ := info_parts infoBool
    clear b0 k0 r0 he htk
    generalize hN : (wF l).length = N at *
    have hN3 : N ≤ 3000 := by omega
    have HWL := Lib.hid hwl
    clear hwl
    go_enter Try.func22, Try.ntmps22
    go_wp2_with (first
      | (go_at_call 25; refine T.out.mono ?_; rintro e w1 ⟨rfl, hb1⟩; rw [HE.out]; have bl1 := B0.out.trans (hb1.mono B0.out.size); have kk := K0.out.below hb1 K0.out.lt; have rr := R0.out.below hb1 R0.out.lt; obtain ⟨⟨c1, c2, c3⟩, _⟩ := kk.c3)
      | (go_at_call 48; refine (newBoule_any A n cap B l s1 s2 s3 w1 (h.below (bl1.mono hB)) (Nat.le_trans hB bl1.size) (by omega) hok.2.1).mono ?_; rintro e w2 ⟨A5, n5, cap5, rfl, hown, hb2⟩; have bl2 := bl1.trans (hb2.mono bl1.size); have rr2 := rr.below hb2 rr.lt; have hn5 : n5 = N := by (have := hown.len; omega))
      | (at_make; refine wpList_make_full _ rfl _ _ _ rfl (w2.heap.size + 1) 4 bi _ 1 (by kernel_rfl) hi hz hs _ _ _ _ N rfl rfl rfl rfl (by rw [hby]; omega) (by unfold maxLen; omega) (by simp) ?_; intro w3 hown3 hgrow3))
    obtain ⟨w2', hw2'⟩ : ∃ w2', w2' = w2.alloc (.cells #[.int .i64 s1, .int .i64 s2, .int .i64 s3, .slice A5 n5 cap5] 108) := ⟨_, rfl⟩
    subst hn5
    have hac : AC w (w3.alloc (.cells #[.int .i64 0, .int .i64 0, .int .i64 n5] 45)) w2.heap.size w3.heap.size n5 s1 s2 s3 A5 n5 cap5 (goneF s3 n5 (bs.take 0)) (lnB (bs.take 0)) 0 n5 := by
      have hsz : (w2.alloc (.cells #[.int .i64 s1, .int .i64 s2, .int .i64 s3, .slice A5 n5 cap5] 108)).heap.size = w2.heap.size + 1 := by simp
      have hg : Bk w3 (w2.heap.size + 1) 4 (gnA (fun _ => false) n5) := made_gn (own_whole (by simpa using hown3))
      have hb3 : Below (w2.heap.size + 1) (w2.alloc (.cells #[.int .i64 s1, .int .i64 s2, .int .i64 s3, .slice A5 n5 cap5] 108)) w3 := (Below.refl _ _).grown hgrow3 (by simp) (fun k e => by cases e)
      have hlt := hg.lt
      have hr := rr2.lt
      refine ⟨ba (Below.trans (ba bl2) (hb3.mono (by omega))), ⟨by omega, hlt⟩, ?_, ?_, ?_, Bk.newAt _ _ _ _ rfl⟩
      · exact ((rr2.alloc _).below hb3 (by omega)).alloc _
      · exact ((Bk.newAt w2 _ _ _ rfl).below hb3 (by omega)).alloc _
      · exact hg.alloc _
    have HAC := Lib.hid hac
    clear hown hown3 hgrow3 rr2 rr bl2 bl1 hb1 hb2 kk c1 c2 c3 hac hN HE
    generalize w2.heap.size = G at *
    generalize hC : w3.heap.size = C at *
    generalize (totalF l s1 s2 s3 bs).1 = tv at *
    go_loopw [43] (fun i wr => ∃ k : Nat, k ≤ n2 ∧ i = .int .i64 k ∧ AC w wr G C n5 s1 s2 s3 A5 n5 cap5 (goneF s3 n5 (bs.take k)) (lnB (bs.take k)) 0 n5) (fun i _ => n2 - (intOf i).toNat)
    case atStart => exact ⟨0, Nat.zero_le _, rfl, HAC.out⟩
    case round =>
      obtain ⟨k, hk, rfl, hac⟩ := hrel
      have HA := Lib.hid hac
      have hlow := hac.low
      have hCw := hac.cro.lt
      by_cases hlt : k < n2
      · obtain ⟨x, hx⟩ := h2.get hlt
        obtain ⟨b, off, rfl, hb, c1, c2⟩ := (h2.below (hac.bel.mono hB2)).at2 hx
        obtain ⟨x1, x2⟩ := x
        have hxn := HN.out _ (List.mem_of_getElem? hx)
        rw [← HWL.out] at hxn
        have hsb := lnB_bd (n := lenF l) (bs := bs.take k) (fun y hy => HN.out y (List.mem_of_mem_take hy))
        rw [← HWL.out] at hsb
        have htl : (bs.take k).length ≤ k := List.length_take_le _ _
        have hsb2 : (n5 : Int) * ((bs.take k).length : Int) ≤ 3000 * 100000 := Int.mul_le_mul (by omega) (by omega) (by omega) (by omega)
        have HL := Lib.hid (lnB_snoc (bs.take k) (x1, x2))
        have HTS := Lib.hid (take_snoc hx)
        have hbw : b < wr.heap.size := by have := hac.bel.size; omega
        have hne : ¬ C = wr.heap.size := by omega
        obtain ⟨⟨z0, z1, z2⟩, ⟨f0, f1, f2⟩⟩ := hac.cro.c3
        simp only at c1 c2 hxn
        have hsb3 : 0 ≤ lnB (bs.take k) ∧ lnB (bs.take k) ≤ 300000000 := by omega
        clear hx hac hsb hsb2 htl
        generalize lnB (bs.take k) = sb at *
        have hac1 : AC w ((wr.setCell ⟨C, 0, none⟩ (.int .i64 (sb + (x2 - x1)))).alloc (.cells #[.int .i64 x1, .int .i64 x2] 49)) G C n5 s1 s2 s3 A5 n5 cap5 (goneF s3 n5 (bs.take k)) (sb + (x2 - x1)) 0 n5 :=
          (HA.out.cset 0 _ (sb + (x2 - x1)) 0 n5 rfl).below (ba (Below.refl _ _))
        have kx1 : Bk ((wr.setCell ⟨C, 0, none⟩ (.int .i64 (sb + (x2 - x1)))).alloc (.cells #[.int .i64 x1, .int .i64 x2] 49)) wr.heap.size 49 #[.int .i64 x1, .int .i64 x2] := Bk.newAt _ _ _ _ (by simp)
        have HAC1 := Lib.hid hac1
        have HKX := Lib.hid kx1
        clear hac1 kx1
        go_wp2_with fail
        generalize hwi : (wr.setCell ⟨C, 0, none⟩ (.int .i64 (sb + (x2 - x1)))).alloc (.cells #[.int .i64 x1, .int .i64 x2] 49) = wi at *
        have hgx := HKX.out.lt
        have hGw := HAC1.out.bou.lt
        obtain ⟨⟨p0, p1, p2, p3⟩, -⟩ := HAC1.out.bou.c4
        obtain ⟨⟨y0, y1⟩, -⟩ := HKX.out.c2
        have lbi : Below wi.heap.size wi wi := Below.refl _ _
        have SK := Lib.hid (fun W (hW : Below wi.heap.size wi W) => show W.cell? ⟨G, 0, none⟩ = some (.int .i64 s1) ∧ W.cell? ⟨G, 1, none⟩ = some (.int .i64 s2) ∧ W.cell? ⟨G, 2, none⟩ = some (.int .i64 s3) ∧ W.cell? ⟨G, 3, none⟩ = some (.slice A5 n5 cap5) ∧ W.cell? ⟨wr.heap.size, 0, none⟩ = some (.int .i64 x1) ∧ W.cell? ⟨wr.heap.size, 1, none⟩ = some (.int .i64 x2) from
          ⟨(hW.cell (p := ⟨G, 0, none⟩) hGw).trans p0, (hW.cell (p := ⟨G, 1, none⟩) hGw).trans p1, (hW.cell (p := ⟨G, 2, none⟩) hGw).trans p2, (hW.cell (p := ⟨G, 3, none⟩) hGw).trans p3, (hW.cell (p := ⟨wr.heap.size, 0, none⟩) hgx).trans y0, (hW.cell (p := ⟨wr.heap.size, 1, none⟩) hgx).trans y1⟩)
        have BH := Lib.hid (behind_any s1 s2 s3 A5 n5 cap5 x1 x2 wi.drew (by omega) (by omega))
        unfold vB at BH
        generalize hmn : min (x2 + s3) (n5 : Int) = mn at BH
        have HMN := Lib.hid hmn
        clear hmn
        obtain ⟨mx, hmx⟩ : ∃ mx, max 0 (x1 - s3) = mx := ⟨_, rfl⟩
        have HMX := Lib.hid hmx
        have HMI := Lib.hid (show (if 0 < IntKind.i64.wrap (x1 - s3) then IntKind.i64.wrap (x1 - s3) else 0) = mx by rw [IntWalk.i64_in _ (by omega)]; split <;> omega)
        clear hmx
        clear z0 z1 z2 f0 f1 f2 c1 c2 p0 p1 p2 p3 y0 y1 hwi
        go_cut [72, 73, 74] (fun s72 s73 s74 wx => ∃ g : Nat, wi.heap.size ≤ g ∧ s72 = .slice (some ⟨g, 0, none⟩) 2 2 ∧ s73 = .int .i64 2 ∧ s74 = .int .i64 0 ∧ Bk wx g 49 #[.int .i64 mx, .int .i64 x1, .int .i64 x2, .int .i64 mn] ∧ Below wi.heap.size wi wx)
        case first =>
          go_region_held3 (fun W => W.cell? ⟨G, 0, none⟩ = some (.int .i64 s1) ∧ W.cell? ⟨G, 1, none⟩ = some (.int .i64 s2) ∧ W.cell? ⟨G, 2, none⟩ = some (.int .i64 s3) ∧ W.cell? ⟨G, 3, none⟩ = some (.slice A5 n5 cap5) ∧ W.cell? ⟨wr.heap.size, 0, none⟩ = some (.int .i64 x1) ∧ W.cell? ⟨wr.heap.size, 1, none⟩ = some (.int .i64 x2)) ((refine SK.out _ ?_; repeat (first | (with_reducible exact lb1) | (with_reducible exact lbi) | (with_reducible apply ba) | (with_reducible apply bdr)))) (first | (go_at_call 50; (with_reducible refine BH.out.mono ?_); rintro e w1 ⟨rfl, hb1⟩; have lb1 := thru (bdr lbi) hb1; dsimp only))
          all_goals
            rw [HMI.out]
            have fin := Bk.newAt w1 #[.int .i64 mx, .int .i64 x1, .int .i64 x2, .int .i64 mn] 49 w1.heap.size rfl
            have fin2 := ba (o := .cells #[.int .i64 mx, .int .i64 x1, .int .i64 x2, .int .i64 mn] 49) lb1
            have fin3 := lb1.size
            clear hb1 lb1 lbi
            go_wp2_with fail
            go_meet
            exact ⟨w1.heap.size, fin3, rfl, rfl, rfl, fin, fin2⟩
        case rest =>
          obtain ⟨g, hg, rfl, rfl, rfl, kg, hbc⟩ := hcut
          have ac2 := HAC1.out.below hbc
          rw [← mkF_zero s3 n5 (bs.take k) (x1, x2)] at ac2
          have AC2 := Lib.hid ac2
          have KG := Lib.hid kg
          have hgG : ¬ g = G + 1 := by omega
          have hCi := HAC1.out.cro.lt
          have hmx := HMX.out
          have hmn := HMN.out
          have hbm : 0 ≤ mx ∧ mx ≤ x1 ∧ x2 ≤ mn ∧ mn ≤ n5 := by omega
          have HMK := Lib.hid (show ∀ j : Nat, j < 2 → ∃ y z : Nat, ((j = 0 ∧ (y : Int) = mx ∧ (z : Int) = x1) ∨ (j = 1 ∧ (y : Int) = x2 ∧ (z : Int) = mn)) ∧ y ≤ z ∧ z ≤ n5 ∧ (∀ i : Nat, mkF s3 n5 (bs.take k) (x1, x2) (j + 1) i = (mkF s3 n5 (bs.take k) (x1, x2) j i || (decide (y ≤ i) && decide (i < z)))) from fun j hj => by
            rcases (by omega : j = 0 ∨ j = 1) with rfl | rfl
            · refine ⟨mx.toNat, x1.toNat, .inl ⟨rfl, by omega, by omega⟩, by omega, by omega, fun i => ?_⟩
              rw [mkF_one]
              unfold cA
              simp only [hmx]
              rw [show decide (mx ≤ (i : Int)) = decide (mx.toNat ≤ i) from decide_eq_decide.2 (by omega), show decide ((i : Int) < x1) = decide (i < x1.toNat) from decide_eq_decide.2 (by omega)]
            · refine ⟨x2.toNat, mn.toNat, .inr ⟨rfl, by omega, by omega⟩, by omega, by omega, fun i => ?_⟩
              rw [mkF_two']
              unfold cB
              simp only [hmn]
              rw [show decide (x2 ≤ (i : Int)) = decide (x2.toNat ≤ i) from decide_eq_decide.2 (by omega), show decide ((i : Int) < mn) = decide (i < mn.toNat) from decide_eq_decide.2 (by omega)])
          clear hmx hmn ac2 kg
          go_wp2_with fail
          go_loopw [74] (fun v wv => ∃ j : Nat, j ≤ 2 ∧ v = .int .i64 j ∧ AC w wv G C n5 s1 s2 s3 A5 n5 cap5 (mkF s3 n5 (bs.take k) (x1, x2) j) (sb + (x2 - x1)) 0 n5 ∧ Bk wv g 49 #[.int .i64 mx, .int .i64 x1, .int .i64 x2, .int .i64 mn]) (fun v _ => 2 - (intOf v).toNat)
          case atStart => exact ⟨0, by omega, rfl, AC2.out, KG.out⟩
          case round =>
            obtain ⟨j, hj, rfl, acj, kgj⟩ := hrel
            generalize hwv : wr = wv at *
            clear hwv
            have ACJ := Lib.hid acj
            have KGJ := Lib.hid kgj
            by_cases hj2 : j < 2
            · obtain ⟨y, z, hyz, hy1, hz1, hmk⟩ := HMK.out j hj2
              have HM := Lib.hid hmk
              have e0 : wv.cell? ⟨g, j * 2, none⟩ = some (.int .i64 y) := by
                rcases hyz with ⟨rfl, e1, e2⟩ | ⟨rfl, e1, e2⟩
                · exact kgj.cell (by rw [e1]; rfl)
                · exact kgj.cell (by rw [e1]; rfl)
              have e1 : wv.cell? ⟨g, j * 2 + 1, none⟩ = some (.int .i64 z) := by
                rcases hyz with ⟨rfl, e1, e2⟩ | ⟨rfl, e1, e2⟩
                · exact kgj.cell (by rw [e2]; rfl)
                · exact kgj.cell (by rw [e2]; rfl)
              have hgv := kgj.lt
              clear hmk hyz acj kgj
              go_wp2
              go_loopw [17] (fun v wp => ∃ p : Nat, y ≤ p ∧ p ≤ z ∧ v = .int .i64 p ∧ AC w wp G C n5 s1 s2 s3 A5 n5 cap5 (fun i => mkF s3 n5 (bs.take k) (x1, x2) j i || (decide (y ≤ i) && decide (i < p))) (sb + (x2 - x1)) 0 n5 ∧ Bk wp g 49 #[.int .i64 mx, .int .i64 x1, .int .i64 x2, .int .i64 mn] ∧ Bk wp wv.heap.size 49 #[.int .i64 y, .int .i64 z]) (fun v _ => z - (intOf v).toNat)
              case atStart =>
                refine ⟨y, Nat.le_refl _, hy1, rfl, ?_, KGJ.out.alloc _, Bk.newAt wv _ _ _ rfl⟩
                have e : (fun i => mkF s3 n5 (bs.take k) (x1, x2) j i || (decide (y ≤ i) && decide (i < y))) = mkF s3 n5 (bs.take k) (x1, x2) j := by
                  funext i
                  have : (decide (y ≤ i) && decide (i < y)) = false := by simp
                  rw [this, Bool.or_false]
                rw [e]
                exact ACJ.out.below (ba (Below.refl _ _))
              case round =>
                obtain ⟨p, hp1, hp2, rfl, acp, kgp, kyp⟩ := hrel
                generalize hwp : wr = wp at *
                clear hwp
                have ACP := Lib.hid acp
                have KGP := Lib.hid kgp
                have KYP := Lib.hid kyp
                obtain ⟨⟨v0, v1⟩, -⟩ := kyp.c2
                by_cases hp : p < z
                · have i1 : (0 : Int) ≤ (p : Int) := by omega
                  have i2 : (p : Int) < (n5 : Int) := by omega
                  have o1 := acp.one (p := p) (by omega)
                  have o2 := acp.gon.frozen p
                  have hyG : ¬ wv.heap.size = G + 1 := by have := ACJ.out.gon.lt; omega
                  have hfin := acp.mark p (fun i => mkF s3 n5 (bs.take k) (x1, x2) j i || (decide (y ≤ i) && decide (i < p + 1))) (by
                    funext i
                    rw [Bool.or_assoc]
                    congr 1
                    rw [Bool.eq_iff_iff]
                    simp only [Bool.or_eq_true, Bool.and_eq_true, decide_eq_true_eq]
                    omega)
                  have HFN := Lib.hid hfin
                  clear hfin acp kgp kyp
                  generalize (mkF s3 n5 (bs.take k) (x1, x2) j p || (decide (y ≤ p) && decide (p < p))) = mk at *
                  go_wp2
                  go_roundw
                  case rel => exact ⟨p + 1, by omega, by omega, by go_num, HFN.out, KGP.out.other (by simp; omega) _, KYP.out.other (by simp; omega) _⟩
                  case measure => simp [intOf]; omega
                · obtain rfl : p = z := by omega
                  have e : (fun i => mkF s3 n5 (bs.take k) (x1, x2) j i || (decide (y ≤ i) && decide (i < p))) = mkF s3 n5 (bs.take k) (x1, x2) (j + 1) := by
                    funext i
                    exact (HM.out i).symm
                  rw [e] at acp
                  have ACP2 := Lib.hid acp
                  clear acp kgp kyp e ACP
                  go_wp2
                  go_roundw
                  case rel => exact ⟨j + 1, by omega, by go_num, ACP2.out, KGP.out⟩
                  case measure => simp [intOf]; omega
            · obtain rfl : j = 2 := by omega
              rw [mkF_two, ← HTS.out] at acj
              rw [← HL.out, ← HTS.out] at acj
              have ACE := Lib.hid acj
              clear acj kgj
              go_wp2
              go_roundw
              case rel => exact ⟨k + 1, by omega, by go_num, ACE.out⟩
              case measure => simp [intOf]; omega
      · obtain rfl : k = n2 := by omega
        have ht : bs.take k = bs := List.take_of_length_le (by omega)
        have hsb := lnB_bd (n := lenF l) (bs := bs) HN.out
        rw [← HWL.out] at hsb
        have hsb2 : (n5 : Int) * (bs.length : Int) ≤ 3000 * 100000 := Int.mul_le_mul (by omega) (by omega) (by omega) (by omega)
        have hsb3 : 0 ≤ lnB bs ∧ lnB bs ≤ 300000000 := by omega
        rw [ht] at hac
        have HA2 := Lib.hid hac
        have HFF := Lib.hid (HF.out.trans (show (acF s3 n5 bs, (0 : Int)) = ((lnB bs, kF (goneF s3 n5 bs) n5, n5 - (lnB bs + kF (goneF s3 n5 bs) n5)), 0) from rfl))
        clear hac ht HA HF hsb hsb2
        generalize lnB bs = sb at *
        generalize goneF s3 n5 bs = m at *
        go_wp2
        go_loopw [93] (fun v wz => ∃ j : Nat, j ≤ n5 ∧ v = .int .i64 j ∧ AC w wz G C n5 s1 s2 s3 A5 n5 cap5 m sb (kF m j) n5) (fun v _ => n5 - (intOf v).toNat)
        case atStart => exact ⟨0, by omega, rfl, HA2.out⟩
        case round =>
          obtain ⟨j, hj, rfl, acj⟩ := hrel
          generalize hwv : wr = wv at *
          clear hwv
          have ACJ := Lib.hid acj
          have hkb := kF_bd m j
          obtain ⟨⟨z0, z1, z2⟩, ⟨f0, f1, f2⟩⟩ := acj.cro.c3
          by_cases hj2 : j < n5
          · have o1 := acj.one hj2
            have HK1 := Lib.hid (show kF m (j + 1) = kF m j + if m j then 1 else 0 from rfl)
            cases hm : m j
            · rw [hm] at o1 HK1
              clear hm acj
              generalize kF m j = kk at *
              go_wp2
              go_roundw
              case rel => exact ⟨j + 1, by omega, by go_num, by rw [HK1.out]; simpa using ACJ.out⟩
              case measure => simp [intOf]; omega
            · rw [hm] at o1 HK1
              clear hm acj
              generalize kF m j = kk at *
              have hfin := ACJ.out.cset 1 (.int .i64 (kk + 1)) sb (kk + 1) n5 rfl
              have HFN := Lib.hid hfin
              clear hfin
              go_wp2
              go_roundw
              case rel => exact ⟨j + 1, by omega, by go_num, by rw [HK1.out]; exact HFN.out⟩
              case measure => simp [intOf]; omega
          · obtain rfl : j = n5 := by omega
            generalize kF m j = kk at *
            obtain ⟨⟨r0, r1, r2⟩, ⟨g0, g1, g2⟩⟩ := acj.res.c3
            have hlow := acj.low
            have hne : ¬ w.heap.size + 1 = C := by omega
            have hne2 : ¬ C = w.heap.size + 1 := by omega
            clear acj
            go_wp2
            refine bodyPost_ret (v := .tuple #[acV (sb, kk, j - (sb + kk)), .int .i64 0]) (by simp [acV, results, Try.results22, go_sem, r0, r1, r2]) rfl ⟨by rw [HFF.out], ?_⟩
            exact Ytlkfcbdbieenhaa.bs (Ytlkfcbdbieenhaa.bs (Ytlkfcbdbieenhaa.bs (Ytlkfcbdbieenhaa.bs ACJ.out.bel (by simp; omega)) (by simp)) (by simp)) (by simp)
  · have HF := Lib.hid (show accF l s1 s2 s3 bs = ((0, 0, 0), (totalF l s1 s2 s3 bs).2) from if_pos he)
    have hd : decide ((totalF l s1 s2 s3 bs).2 = 0) = false := by simpa using he
    have hd2 : ((totalF l s1 s2 s3 bs).2 != 0) = true := by simpa using he
    generalize (totalF l s1 s2 s3 bs).1 = tv at *
    generalize (totalF l s1 s2 s3 bs).2 = te at *
    clear b0 k0 r0 he
    go_enter Try.func22, Try.ntmps22
    go_wp2_with (first
      | (go_at_call 25; refine T.out.mono ?_; rintro e w1 ⟨rfl, hb1⟩; have bl1 := B0.out.trans (hb1.mono B0.out.size); have kk := K0.out.below hb1 K0.out.lt; have rr := R0.out.below hb1 R0.out.lt; obtain ⟨⟨r0, r1, r2⟩, ⟨g0, g1, g2⟩⟩ := rr.c3; clear hb1))
    refine bodyPost_ret (v := .tuple #[acV (0, 0, 0), .int .i64 te]) (by simp [acV, results, Try.results22, go_sem, r0, r1, r2]) rfl ⟨by rw [HF.out], ?_⟩
    exact Ytlkfcbdbieenhaa.bs (Ytlkfcbdbieenhaa.bs (Ytlkfcbdbieenhaa.bs bl1 (by simp)) (by simp)) (by simp)
end Go.Proofs.Ytlkfcbdbieenhaa
