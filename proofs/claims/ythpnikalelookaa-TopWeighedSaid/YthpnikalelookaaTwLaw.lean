/-
  TopWeighed, the law's walk.
-/
import Derived.Test.YthpnikalelookaaTwRest
namespace Go.Proofs.Ythpnikalelookaa
open Go.RowKit

set_option maxRecDepth 100000 in
set_option maxHeartbeats 16000000 in
theorem law_any (A : Option Addr) (n cap B : Nat) (l : List LotP) (A2 : Option Addr) (n2 cap2 B2 : Nat) (ns : List Int) (ml mh t0 u0 t1 u1 t2 u2 : Int) (w : World) (h : Sl eLot 9 w B A n l) (hB : B ≤ w.heap.size)
    (h2 : Sl eI 1 w B2 A2 n2 ns) (hB2 : B2 ≤ w.heap.size) :
    Calls Try.prog 3 #[vM A n cap ml mh t0 u0 t1 u1 t2 u2, .slice A2 n2 cap2] w fun e w' => e = .returned (.bool true) ∧ Below w.heap.size w w' := by
  have hlen := h.len
  have hlen2 := h2.len
  have hvm : vM A n cap ml mh t0 u0 t1 u1 t2 u2 = .agg #[.slice A n cap, .int .i64 ml, .int .i64 mh, .int .i64 t0, .int .i64 u0, .int .i64 t1, .int .i64 u1, .int .i64 t2, .int .i64 u2] := rfl
  rw [hvm]
  clear hvm
  have WE := Lib.hid (fun W (hb : Below w.heap.size w W) => show Calls Try.prog 4 #[] W fun e w' => e = .returned (.bool true) ∧ Below w.heap.size w w' from
    (weighed_any W).mono fun e w' hx => ⟨hx.1, hb.trans (hx.2.mono hb.size)⟩)
  have HB0 := Lib.hid ((Below.refl w.heap.size w).alloc (Nat.le_refl _) (.cells #[.slice A n cap, .int .i64 ml, .int .i64 mh, .int .i64 t0, .int .i64 u0, .int .i64 t1, .int .i64 u1, .int .i64 t2, .int .i64 u2] 28))
  by_cases g1 : 10 < n
  · go_enter Try.func3, Try.ntmps3
    go_wp2_with fail
    refine (WE.out _ HB0.out).mono ?_
    rintro e w1 ⟨rfl, hb1⟩
    go_wp2
    go_ret
    exact ⟨rfl, hb1⟩
  · by_cases g2 : 10 < n2
    · have hd : decide ((10 : Int) < n) = false := by simp; omega
      go_enter Try.func3, Try.ntmps3
      go_wp2_with fail
      refine (WE.out _ HB0.out).mono ?_
      rintro e w1 ⟨rfl, hb1⟩
      go_wp2
      go_ret
      exact ⟨rfl, hb1⟩
    · have hd : decide ((10 : Int) < n) = false := by simp; omega
      have LO := Lib.hid (fun W (hb : Below w.heap.size w W) => lotsOf_any A n cap B l W (h.below (hb.mono hB)) (Nat.le_trans hB hb.size) (by omega))
      have lz : LA w (w.alloc (.cells #[.slice A n cap, .int .i64 ml, .int .i64 mh, .int .i64 t0, .int .i64 u0, .int .i64 t1, .int .i64 u1, .int .i64 t2, .int .i64 u2] 28)) A n cap ml mh t0 u0 t1 u1 t2 u2 := ⟨Bk.newAt w _ _ w.heap.size rfl, HB0.out⟩
      have la := lz.drew
      go_enter Try.func3, Try.ntmps3
      go_upto_region 3 with fail
      go_cut [5] (fun s5 wx => ∃ (g : Nat) (A' : Option Addr) (cap' : Nat), s5 = .pointer (some ⟨g, 0, none⟩) ∧ LQ w wx l A n cap ml mh t0 u0 t1 u1 t2 u2 g A' cap')
      case first =>
        go_region_held3 (fun w' => w'.cell? ⟨w.heap.size, 0, none⟩ = some (.slice A n cap) ∧ w'.cell? ⟨w.heap.size, 1, none⟩ = some (.int .i64 ml) ∧ w'.cell? ⟨w.heap.size, 2, none⟩ = some (.int .i64 mh) ∧ w'.cell? ⟨w.heap.size, 3, none⟩ = some (.int .i64 t0) ∧ w'.cell? ⟨w.heap.size, 4, none⟩ = some (.int .i64 u0) ∧ w'.cell? ⟨w.heap.size, 5, none⟩ = some (.int .i64 t1) ∧ w'.cell? ⟨w.heap.size, 6, none⟩ = some (.int .i64 u1) ∧ w'.cell? ⟨w.heap.size, 7, none⟩ = some (.int .i64 t2) ∧ w'.cell? ⟨w.heap.size, 8, none⟩ = some (.int .i64 u2)) (first | with_reducible exact la.box.recipe | with_reducible exact (la.box.alloc _).recipe | with_reducible exact (lz.alloc _).drew.box.recipe | with_reducible exact (la.box.other9 (Nat.ne_of_lt (Nat.lt_succ_self _)) _ _ _ _ _ _ _ _ _).recipe) (first | (go_at_call 5; (with_reducible refine (LO.out _ la.bel).mono ?_); rintro e w1 ⟨A', n', cap', rfl, hown, hb1⟩; have la := la.below hb1; have la0 := la) | (go_at_call 5; (with_reducible refine (LO.out _ (lz.alloc _).drew.bel).mono ?_); rintro e w1 ⟨A', n', cap', rfl, hown, hb1⟩; have kq := (Bk.newAt (w.alloc (.cells #[.slice A n cap, .int .i64 ml, .int .i64 mh, .int .i64 t0, .int .i64 u0, .int .i64 t1, .int .i64 u1, .int .i64 t2, .int .i64 u2] 28)) _ _ (w.heap.size + 1) (by simp)).drew.below hb1 (by simp); obtain ⟨k0, k1, k2, k3, k4, k5, k6, k7, k8⟩ := kq.recipe; obtain ⟨z0, z1, z2, z3, z4, z5, z6, z7, z8⟩ := kq.fr9; have la := (lz.alloc _).drew.below hb1))
        · obtain rfl : n' = n := by have := hown.len; omega
          have hsl := hown.sl encLot
          have fin : LQ w (w1.alloc (.cells #[.slice A' n' cap', .int .i64 ml, .int .i64 mh, .int .i64 t0, .int .i64 u0, .int .i64 t1, .int .i64 u1, .int .i64 t2, .int .i64 u2] 28)) l A n' cap ml mh t0 u0 t1 u1 t2 u2 w1.heap.size A' cap' := ⟨la.alloc _, Bk.newAt w1 _ _ w1.heap.size rfl, (hsl.below ((Below.refl _ _).alloc (Nat.le_refl _) _)).more (by simp)⟩
          clear hown hsl la0 hb1
          go_wp2_with fail
          go_meet
          exact ⟨w1.heap.size, A', cap', rfl, fin⟩
        · obtain rfl : n' = n := by have := hown.len; omega
          have hne : w.heap.size ≠ w.heap.size + 1 := by omega
          have hg9 := grown9 (w := w1) (g := w.heap.size + 1) (.slice A' n' cap') (.int .i64 ml) (.int .i64 mh) (.int .i64 t0) (.int .i64 u0) (.int .i64 t1) (.int .i64 u1) (.int .i64 t2) (.int .i64 u2)
          have hw1 := kq.lt
          have ho2 := (hown.kept hg9 (hown.ne (by simp))).sl encLot
          have fin : LQ w _ l A n' cap ml mh t0 u0 t1 u1 t2 u2 (w.heap.size + 1) A' cap' := ⟨⟨la.box.other9 hne _ _ _ _ _ _ _ _ _, below_of_grown la.bel hg9 (by omega) (by omega)⟩, kq.put9 _ _ _ _ _ _ _ _ _, ho2⟩
          clear hown ho2 hg9 kq hb1
          go_wp2_with fail
          go_meet
          exact ⟨w.heap.size + 1, A', cap', rfl, fin⟩
      case rest =>
        obtain ⟨g, A', cap', rfl, lq⟩ := hcut
        clear la lz LO HB0
        have CW := Lib.hid (fun (W : World) (hb : Below wc.heap.size wc W) (A3 : Option Addr) (n3 cap3 : Nat) (hs : Sl eI 1 W W.heap.size A3 n3 ns) => show Calls Try.prog 6 #[.agg #[.slice A' n cap', .int .i64 ml, .int .i64 mh, .int .i64 t0, .int .i64 u0, .int .i64 t1, .int .i64 u1, .int .i64 t2, .int .i64 u2], .slice A3 n3 cap3] W fun e w' => (∃ m x0 y0 x1 y1 x2 y2 r : Int, e = .returned (.tuple #[.agg #[.int .i64 m, .int .i64 x0, .int .i64 y0, .int .i64 x1, .int .i64 y1, .int .i64 x2, .int .i64 y2], .int .i64 r]) ∧ WD l ns ml mh t0 u0 t1 u1 t2 u2 m x0 y0 x1 y1 x2 y2 r) ∧ Below W.heap.size W w' from
          (bigWeigh_any A' n cap' wc.heap.size l A3 n3 cap3 W.heap.size ns ml mh t0 u0 t1 u1 t2 u2 W (lq.2.2.below hb) hb.size (by omega) hs (Nat.le_refl _) (by have := hs.len; omega)).mono fun e w' hx => ⟨hx.1.wd, hx.2⟩)
        have hsn : Sl eI 1 wc B2 A2 n2 ns := h2.below (lq.1.2.mono hB2)
        have hBw : B2 ≤ wc.heap.size := Nat.le_trans hB2 lq.1.2.size
        have lb : Below wc.heap.size wc wc := Below.refl _ _
        go_upto_region 4 with fail
        have hm63 : (0 : Nat) + n2 ≤ maxLen := by unfold maxLen; omega
        have lw1 : Below wc.heap.size wc (wc.alloc (.cells #[] 3)).drew := bdr (ba lb)
        have lw2 : Below wc.heap.size wc ((wc.alloc (.cells #[] 3)).alloc (.cells (cP 0 0 0 0 0 0 0) 33)).drew := bdr (ba (ba lb))
        have lw3 : Below wc.heap.size wc ((wc.alloc (.cells (cP 0 0 0 0 0 0 0) 33)).alloc (.cells #[] 3)).drew := bdr (ba (ba lb))
        have o0 : Own eI 1 3 wc.heap.size (wc.alloc (.cells #[] 3)) (some ⟨wc.heap.size, 0, none⟩) 0 0 [] := Own.lit enc1 (Nat.le_refl _) (Nat.zero_le _) rfl
        have o1 : Own eI 1 3 wc.heap.size (wc.alloc (.cells #[] 3)).drew (some ⟨wc.heap.size, 0, none⟩) 0 0 [] := o0.drew
        have o2 : Own eI 1 3 wc.heap.size ((wc.alloc (.cells #[] 3)).alloc (.cells (cP 0 0 0 0 0 0 0) 33)).drew (some ⟨wc.heap.size, 0, none⟩) 0 0 [] := (o0.alloc _).drew
        have o3 : Own eI 1 3 wc.heap.size ((wc.alloc (.cells (cP 0 0 0 0 0 0 0) 33)).alloc (.cells #[] 3)).drew (some ⟨wc.heap.size + 1, 0, none⟩) 0 0 [] := by
          have := (Own.lit (e := 3) (base := wc.heap.size) (w := wc.alloc (.cells (cP 0 0 0 0 0 0 0) 33)) enc1 (xs := []) (cs := #[]) (by simp) (Nat.zero_le _) rfl).drew
          simpa using this
        have kp2 := (Bk.newAt (wc.alloc (.cells #[] 3)) (cP 0 0 0 0 0 0 0) 33 (wc.heap.size + 1) (by simp)).drew
        have kp3 := ((Bk.newAt wc (cP 0 0 0 0 0 0 0) 33 wc.heap.size rfl).alloc (.cells #[] 3)).drew
        have hne2 : some (wc.heap.size + 1) ≠ Option.map (·.block) (some (⟨wc.heap.size, 0, none⟩ : Addr)) := by simp
        have hne3 : some wc.heap.size ≠ Option.map (·.block) (some (⟨wc.heap.size + 1, 0, none⟩ : Addr)) := by simp
        clear o0
        unfold cP at *
        go_cut [6, 7] (fun s6 s7 wx => ∃ (g6 : Nat) (m x0 y0 x1 y1 x2 y2 r : Int), s6 = .pointer (some ⟨g6, 0, none⟩) ∧ s7 = .int .i64 r ∧ LQ w wx l A n cap ml mh t0 u0 t1 u1 t2 u2 g A' cap' ∧ Bk wx g6 33 (cP m x0 y0 x1 y1 x2 y2) ∧ WD l ns ml mh t0 u0 t1 u1 t2 u2 m x0 y0 x1 y1 x2 y2 r)
        case first =>
          go_region_held3 (fun w' => w'.cell? ⟨g, 0, none⟩ = some (.slice A' n cap') ∧ w'.cell? ⟨g, 1, none⟩ = some (.int .i64 ml) ∧ w'.cell? ⟨g, 2, none⟩ = some (.int .i64 mh) ∧ w'.cell? ⟨g, 3, none⟩ = some (.int .i64 t0) ∧ w'.cell? ⟨g, 4, none⟩ = some (.int .i64 u0) ∧ w'.cell? ⟨g, 5, none⟩ = some (.int .i64 t1) ∧ w'.cell? ⟨g, 6, none⟩ = some (.int .i64 u1) ∧ w'.cell? ⟨g, 7, none⟩ = some (.int .i64 t2) ∧ w'.cell? ⟨g, 8, none⟩ = some (.int .i64 u2)) ((refine lq.q9 ?_; repeat (first | (with_reducible exact lb2) | (with_reducible exact lb1) | (with_reducible exact lb) | (with_reducible apply ba) | (with_reducible apply bdr) | (with_reducible refine bs ?_ (by simp <;> omega))))) (first | (refine step_append_any (o := ⟨some 47, _, _, _, _, _⟩) (base := wc.heap.size) enc1 elI rfl (.tmp 45) (.tmp 46) rfl (some ⟨wc.heap.size, 0, none⟩) 0 0 [] (by rfl) o1 B2 A2 n2 cap2 ns (by rfl) (hsn.below ((lw1).mono hBw)) hm63 (by omega) (lw1).size ?_; intro A3 cap3 w1 hown hgrow hat; have lb1 := below_of_grown lw1 hgrow lw1.size (Nat.le_refl _); have hs1 : Sl eI 1 w1 w1.heap.size A3 (0 + n2) ns := hown.sl enc1; rw [Nat.zero_add] at hs1) | (refine step_append_any (o := ⟨some 47, _, _, _, _, _⟩) (base := wc.heap.size) enc1 elI rfl (.tmp 45) (.tmp 46) rfl (some ⟨wc.heap.size, 0, none⟩) 0 0 [] (by rfl) o2 B2 A2 n2 cap2 ns (by rfl) (hsn.below ((lw2).mono hBw)) hm63 (by omega) (lw2).size ?_; intro A3 cap3 w1 hown hgrow hat; have kp1 := kp2.grown hgrow hne2; have lb1 := below_of_grown lw2 hgrow lw2.size (Nat.le_refl _); have hs1 : Sl eI 1 w1 w1.heap.size A3 (0 + n2) ns := hown.sl enc1; rw [Nat.zero_add] at hs1) | (refine step_append_any (o := ⟨some 47, _, _, _, _, _⟩) (base := wc.heap.size) enc1 elI rfl (.tmp 45) (.tmp 46) rfl (some ⟨wc.heap.size + 1, 0, none⟩) 0 0 [] (by rfl) o3 B2 A2 n2 cap2 ns (by rfl) (hsn.below ((lw3).mono hBw)) hm63 (by omega) (lw3).size ?_; intro A3 cap3 w1 hown hgrow hat; have kp1 := kp3.grown hgrow hne3; have lb1 := below_of_grown lw3 hgrow lw3.size (Nat.le_succ _); have hs1 : Sl eI 1 w1 w1.heap.size A3 (0 + n2) ns := hown.sl enc1; rw [Nat.zero_add] at hs1) | (go_at_call 6; (with_reducible refine (CW.out _ lb1 _ _ _ hs1).mono ?_); rintro e w2 ⟨⟨m, x0, y0, x1, y1, x2, y2, r, rfl, wd⟩, hb2⟩; have lb2 := (lb1).trans (hb2.mono (lb1).size); have kp := kp1.below hb2 kp1.lt; have hgp := kp.lt; obtain ⟨⟨p0, p1, p2, p3, p4, p5, p6⟩, ⟨f0, f1, f2, f3, f4, f5, f6⟩⟩ := kp.pile) | (go_at_call 6; (with_reducible refine (CW.out _ (ba lb1) _ _ _ ((hs1.below ((Below.refl _ _).alloc (Nat.le_refl _) _)).more (by simp))).mono ?_); rintro e w2 ⟨⟨m, x0, y0, x1, y1, x2, y2, r, rfl, wd⟩, hb2⟩; have lb2 := ((ba lb1)).trans (hb2.mono ((ba lb1)).size); have kp := (Bk.newAt w1 (cP 0 0 0 0 0 0 0) 33 w1.heap.size rfl).below hb2 (by simp); have hw1 := lb1.size; obtain ⟨⟨p0, p1, p2, p3, p4, p5, p6⟩, ⟨f0, f1, f2, f3, f4, f5, f6⟩⟩ := kp.pile) | (go_at_call 6; (with_reducible refine (CW.out _ lb1 _ _ _ hs1).mono ?_); rintro e w2 ⟨⟨m, x0, y0, x1, y1, x2, y2, r, rfl, wd⟩, hb2⟩; have lb2 := (lb1).trans (hb2.mono (lb1).size)))
          · have fin : LQ w (w2.alloc (.cells (cP m x0 y0 x1 y1 x2 y2) 33)) l A n cap ml mh t0 u0 t1 u1 t2 u2 g A' cap' := lq.below (ba lb2)
            have kpn := Bk.newAt w2 (cP m x0 y0 x1 y1 x2 y2) 33 w2.heap.size rfl
            clear hown hgrow hat hb2 hs1 lb1 lb2 lb lq
            go_wp2_with fail
            go_meet
            exact ⟨w2.heap.size, m, x0, y0, x1, y1, x2, y2, r, rfl, rfl, fin, kpn, wd⟩
          · have fin := lq.below (below7 lb2 hw1 (.int .i64 m) (.int .i64 x0) (.int .i64 y0) (.int .i64 x1) (.int .i64 y1) (.int .i64 x2) (.int .i64 y2))
            have kpn := kp.put7 m x0 y0 x1 y1 x2 y2
            clear hown hgrow hat hb2 hs1 lb1 lb2 lb lq kp
            go_wp2_with fail
            go_meet
            exact ⟨w1.heap.size, m, x0, y0, x1, y1, x2, y2, r, rfl, rfl, fin, kpn, wd⟩
          · have fin := lq.below (below7 lb2 (Nat.le_succ _) (.int .i64 m) (.int .i64 x0) (.int .i64 y0) (.int .i64 x1) (.int .i64 y1) (.int .i64 x2) (.int .i64 y2))
            have kpn := kp.put7 m x0 y0 x1 y1 x2 y2
            clear hown hgrow hat hb2 hs1 lb1 lb2 lb lq kp kp1
            go_wp2_with fail
            go_meet
            exact ⟨wc.heap.size + 1, m, x0, y0, x1, y1, x2, y2, r, rfl, rfl, fin, kpn, wd⟩
          · have fin := lq.below (below7 lb2 (Nat.le_refl _) (.int .i64 m) (.int .i64 x0) (.int .i64 y0) (.int .i64 x1) (.int .i64 y1) (.int .i64 x2) (.int .i64 y2))
            have kpn := kp.put7 m x0 y0 x1 y1 x2 y2
            clear hown hgrow hat hb2 hs1 lb1 lb2 lb lq kp kp1
            go_wp2_with fail
            go_meet
            exact ⟨wc.heap.size, m, x0, y0, x1, y1, x2, y2, r, rfl, rfl, fin, kpn, wd⟩
        case rest =>
          rename_i hK
          obtain ⟨g6, m, x0, y0, x1, y1, x2, y2, r, rfl, rfl, lq6, kp6, wd⟩ := hcut
          exact hK _ _ (law_rest A n cap B l A2 n2 cap2 B2 ns ml mh t0 u0 t1 u1 t2 u2 w h hB h2 hB2 g1 g2 wc g A' cap' g6 m x0 y0 x1 y1 x2 y2 r lq6 kp6 wd u25 u26 u27 u28 u29 u30 u31 u32 u33 u34 u35 u36 u37 u38 u39 u40 u41 u42 u43 u44 u45 u46 u47 u48 u49 u50 u51 u52 u53 u54 u55 u56 u57 u58 u59 u60 u61 u62 u63 u64 u65 u66 u67 u68 u69 u70 u71 u72 u73 u74 u75 u76 u77 u78 u79 u80 u81 u82 u83 u84 u85 u86 u87 u88 u89 u90 u91 u92 u93 u94 u95 u96 u97 u98 u99 u100 u101 u102 u103 u104 u105 u106 u107 u108 u109 u110 u111 u112 u113 u114 u115 u116 u117 u118 u119 u120 u121 u122 u123 u124 u125 u126 u127 u128 u129 u130 u131 u132 u133 u134 u135 u136 u137 u138 u139 u140 u141 u142 u143 u144 u145 u146 u147 u148 u149 u150 u151 u152 u153 u154 u155 u156 u157 u158 u159 u160 u161 u162 u163 u164 u165 u166 u167 u168 u169 u170 u171 u172 u173 u174 u175 u176 u177 u178 u179 u180 u181 u182 u183 u184 u185 u186 u187 u188 u189 u190 u191 u192 u193 u194 u195 u196 u197 u198 u199 u200 u201 u202 u203 u204 u205 u206 u207 u208 u209 u210 u211 u212 u213 u214 u215 u216 u217 u218 u219)
end Go.Proofs.Ythpnikalelookaa
