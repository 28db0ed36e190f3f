/-
  The law of chapter 7 on values: CropValues, the loop over the blocks.
-/
import Derived.Test.YtlkfcbdbieenhaaCropWK
namespace Go.Proofs.Ytlkfcbdbieenhaa
open Go.RowKit

theorem rk_one (l : List St) (s1 s2 s3 : Int) (x : Bl) : rkF l s1 s2 s3 [x] = alF l s1 s2 x.1 x.2 := by
  simp [rkF, rkAt, List.range, List.range.loop]
theorem Own.toSl {α : Type} {enc : α → List Value} {c : Nat} {e : TypeId} {base : Nat} {w : World} {A : Option Addr} {n cap : Nat} {xs : List α} (h : Own enc c e base w A n cap xs) (he : Enc enc c) : Sl enc c w w.heap.size A n xs := h.sl he

set_option maxRecDepth 100000 in
set_option maxHeartbeats 16000000 in
theorem values_loop (A : Option Addr) (n cap B : Nat) (l : List St) (s1 s2 s3 : Int) (A2 : Option Addr) (n2 cap2 B2 : Nat) (bs : List Bl) (w : World) (h : Sl eII 2 w B A n l) (hB : B ≤ w.heap.size) (hn : n ≤ 70)
    (h2 : Sl eII 2 w B2 A2 n2 bs) (hB2 : B2 ≤ w.heap.size) (hn2 : n2 ≤ 40) (wq : World) (hvl : VL w wq s1 s2 s3) (g : Nat) (tv te ae c1 c2 c3 E : Int) (hT : totalF l s1 s2 s3 bs = (tv, te)) (hA : accF l s1 s2 s3 bs = ((c1, c2, c3), ae)) (hE : checkF l (s1, s2, s3) = E)
    (hg : Bk wq g 45 #[.int .i64 c1, .int .i64 c2, .int .i64 c3])
    (u3 u5 u6 u7 u8 u14 u15 u16 u17 u18 u19 u20 u21 u22 u23 u24 u25 u26 u27 u28 u29 u30 u31 u32 u33 u34 u35 u36 u37 u38 u39 u40 u41 u42 u43 u44 u45 u46 u47 u48 u49 u50 u51 u52 u53 u54 u55 u56 u57 u58 u59 u60 u61 u62 u63 u64 u65 u66 u67 u68 u69 u70 u71 u72 u73 u74 u75 u76 u77 u78 u79 u80 u81 u82 u83 u84 u85 u86 u87 u88 u89 u90 u91 u92 u93 u94 u95 u96 u97 u98 u99 u100 u101 u102 u103 u104 u105 u106 u107 u108 u109 u110 u111 u112 u113 u114 u115 u116 u117 u118 u119 u120 u121 u122 u123 u124 u125 u126 u127 u128 u129 u130 u131 u132 u133 u134 u135 u136 u137 u138 u139 u140 u141 u142 u143 u144 u145 u146 u147 u148 u149 u150 u151 u152 u153 u154 u155 u156 u157 u158 u159 u160 u161 u162 u163 u164 u165 u166 u167 u168 u169 u170 u171 u172 u173 u174 u175 u176 u177 u178 u179 u180 u181 u182 u183 u184 u185 u186 u187 u188 u189 u190 u191 u192 u193 u194 u195 : Value) :
    Code.wp Try.prog (codeSkip 9 (Try.f6.body.getD .skip)) (bodyPost Try.prog Try.f6 fun e w' => e = .returned (.bool true) ∧ Below w.heap.size w w')
      { tmps := #[.slice A n cap, .agg #[.int .i64 s1, .int .i64 s2, .int .i64 s3], .slice A2 n2 cap2, u3, .pointer (some ⟨w.heap.size, 0, none⟩), u5, u6, u7, u8, .int .i64 tv, .int .i64 te, .pointer (some ⟨g, 0, none⟩), .int .i64 ae, .int .i64 E, u14, u15, u16, u17, u18, u19, u20, u21, u22, u23, u24, u25, u26, u27, u28, u29, u30, u31, u32, u33, u34, u35, u36, u37, u38, u39, u40, u41, u42, u43, u44, u45, u46, u47, u48, u49, u50, u51, u52, u53, u54, u55, u56, u57, u58, u59, u60, u61, u62, u63, u64, u65, u66, u67, u68, u69, u70, u71, u72, u73, u74, u75, u76, u77, u78, u79, u80, u81, u82, u83, u84, u85, u86, u87, u88, u89, u90, u91, u92, u93, u94, u95, u96, u97, u98, u99, u100, u101, u102, u103, u104, u105, u106, u107, u108, u109, u110, u111, u112, u113, u114, u115, u116, u117, u118, u119, u120, u121, u122, u123, u124, u125, u126, u127, u128, u129, u130, u131, u132, u133, u134, u135, u136, u137, u138, u139, u140, u141, u142, u143, u144, u145, u146, u147, u148, u149, u150, u151, u152, u153, u154, u155, u156, u157, u158, u159, u160, u161, u162, u163, u164, u165, u166, u167, u168, u169, u170, u171, u172, u173, u174, u175, u176, u177, u178, u179, u180, u181, u182, u183, u184, u185, u186, u187, u188, u189, u190, u191, u192, u193, u194, u195], defers := [] } wq := by
  conv => arg 2; whnf
  dsimp only
  have HVL := Lib.hid hvl
  have HG := Lib.hid hg
  have HT := Lib.hid hT
  have HA := Lib.hid hA
  have HE := Lib.hid hE
  have hlen := h.len
  have hlen2 := h2.len
  clear hT hA hE hvl hg
  go_upto_block 2 with fail
  go_cut [15] (fun s15 wx => Below wq.heap.size wq wx)
  case first =>
    go_wp2_with fail
    go_loopw [15] (fun v wr => ∃ k : Nat, k ≤ n2 ∧ v = .int .i64 k ∧ Below wq.heap.size wq wr) (fun v _ => n2 - (intOf v).toNat)
    case atStart => exact ⟨0, Nat.zero_le _, rfl, Below.refl _ _⟩
    case round =>
      obtain ⟨k, hk, rfl, hbr⟩ := hrel
      generalize hwi : wr = wi at *
      clear hwi
      have HBR := Lib.hid hbr
      have vli := HVL.out.below hbr
      have VLI := Lib.hid vli
      by_cases hlt : k < n2
      · obtain ⟨x, hx⟩ := h2.get hlt
        obtain ⟨b, off, rfl, hb, d1, d2⟩ := (h2.below (vli.2.mono hB2)).at2 hx
        obtain ⟨x1, x2⟩ := x
        simp only at d1 d2
        have hbw : b < wi.heap.size := by have := vli.2.size; omega
        have hlx := vli.1.lt
        obtain ⟨⟨x0, y1, y2⟩, -⟩ := vli.1.c3
        have SK := Lib.hid (fun W (hW : Below wi.heap.size wi W) => show W.cell? ⟨w.heap.size, 0, none⟩ = some (.int .i64 s1) ∧ W.cell? ⟨w.heap.size, 1, none⟩ = some (.int .i64 s2) ∧ W.cell? ⟨w.heap.size, 2, none⟩ = some (.int .i64 s3) ∧ W.cell? ⟨b, off + k * 2, none⟩ = some (.int .i64 x1) ∧ W.cell? ⟨b, off + k * 2 + 1, none⟩ = some (.int .i64 x2) from
          ⟨(hW.cell (p := ⟨w.heap.size, 0, none⟩) hlx).trans x0, (hW.cell (p := ⟨w.heap.size, 1, none⟩) hlx).trans y1, (hW.cell (p := ⟨w.heap.size, 2, none⟩) hlx).trans y2, (hW.cell (p := ⟨b, off + k * 2, none⟩) hbw).trans d1, (hW.cell (p := ⟨b, off + k * 2 + 1, none⟩) hbw).trans d2⟩)
        have OW := Lib.hid (own_any A n cap B l wi.drew (h.below ((bdr vli.2).mono hB)) (Nat.le_trans hB vli.2.size) (by omega))
        have VA := Lib.hid (fun W A5 n5 cap5 (ho : Sl eII 2 W W.heap.size A5 n5 l) (h5 : n5 ≤ 1000000) => bigValue_any A5 n5 cap5 W.heap.size l s1 s2 s3 x1 x2 W ho (Nat.le_refl _) h5)
        have HTV := Lib.hid (show ∃ v e : Int, totalF l s1 s2 s3 [(x1, x2)] = (v, e) ∧ ((E ≠ 0 ∧ v = 0 ∧ e = E) ∨ (E = 0 ∧ alF l s1 s2 x1 x2 = false ∧ v = 0 ∧ e = 71) ∨ (E = 0 ∧ alF l s1 s2 x1 x2 = true ∧ v = (x2 - x1) * (woF x1 x2 l).2 ∧ e = 0)) from by
          by_cases h0 : E = 0
          · have hc := HE.out.trans h0
            cases ha : alF l s1 s2 x1 x2
            · exact ⟨0, 71, totalF_no hc (by rw [rk_one]; exact ha), .inr (.inl ⟨h0, rfl, rfl, rfl⟩)⟩
            · exact ⟨_, 0, totalF_yes hc (by rw [rk_one]; exact ha), .inr (.inr ⟨h0, rfl, by simp [rsum], rfl⟩)⟩
          · exact ⟨0, E, by rw [totalF_bad (by rw [HE.out]; exact h0), HE.out], .inl ⟨h0, rfl, rfl⟩⟩)
        obtain ⟨v, ev, hve, hcase⟩ := HTV.out
        rw [hve] at VA
        simp only at VA
        have lbi : Below wi.heap.size wi wi := Below.refl _ _
        have HX := Lib.hid hx
        have HC := Lib.hid hcase
        clear hve hcase HTV d1 d2 x0 y1 y2 vli hx hbr
        go_wp2_with fail
        go_cut [16, 17] (fun s16 s17 wx => s16 = .int .i64 v ∧ s17 = .int .i64 ev ∧ Below wi.heap.size wi wx)
        case first =>
          go_region_held3 (fun W => W.cell? ⟨w.heap.size, 0, none⟩ = some (.int .i64 s1) ∧ W.cell? ⟨w.heap.size, 1, none⟩ = some (.int .i64 s2) ∧ W.cell? ⟨w.heap.size, 2, none⟩ = some (.int .i64 s3) ∧ W.cell? ⟨b, off + k * 2, none⟩ = some (.int .i64 x1) ∧ W.cell? ⟨b, off + k * 2 + 1, none⟩ = some (.int .i64 x2)) ((refine SK.out _ ?_; repeat (first | (with_reducible exact lb2) | (with_reducible exact lb1) | (with_reducible exact lbi) | (with_reducible apply bdr)))) (first | (go_at_call 16; (with_reducible refine OW.out.mono ?_); rintro e w1 ⟨A5, n5, cap5, rfl, hown5, hb1⟩; have lb1 := thru (bdr lbi) hb1; have hsl5 := hown5.toSl enc2; have hn5 : n5 ≤ 1000000 := (by (have := hsl5.len; omega)); dsimp only) | (go_at_call 26; (with_reducible refine (VA.out w1 A5 n5 cap5 hsl5 hn5).mono ?_); rintro e w2 ⟨rfl, hb2⟩; have lb2 := thru lb1 hb2; dsimp only))
          all_goals
            clear hown5 hsl5
            go_wp2_with fail
            go_meet
            exact ⟨rfl, rfl, lb2⟩
        case rest =>
          obtain ⟨rfl, rfl, hbc⟩ := hcut
          have hwc := hbc.size
          have bw := thru VLI.out.2 hbc
          have bq := thru HBR.out hbc
          have NX := Lib.hid (fun W (hb : Below wc.heap.size wc W) => show ∃ k' : Nat, k' ≤ n2 ∧ Value.int .i64 ((k : Int) + 1) = .int .i64 k' ∧ Below wq.heap.size wq W from ⟨k + 1, by omega, by go_num, thru bq hb⟩)
          obtain ⟨x0, y1, y2, d1, d2⟩ := SK.out wc hbc
          have hlx2 : w.heap.size < wc.heap.size := by omega
          have hbw2 : b < wc.heap.size := by omega
          have q0 := fun m : After wc => m.cell hlx2 x0
          have q1 := fun m : After wc => m.cell hlx2 y1
          have q2 := fun m : After wc => m.cell hlx2 y2
          have q3 := fun m : After wc => m.cell hbw2 d1
          have q4 := fun m : After wc => m.cell hbw2 d2
          have RAL := Lib.hid (fun (h0 : E = 0) W (hb : Below w.heap.size w W) => refAllowed_any A n cap B l s1 s2 s3 x1 x2 W (h.below (hb.mono hB)) (Nat.le_trans hB hb.size) (by omega) (checkF_ok (HE.out.trans h0)).2.1 (by have := (checkF_ok (HE.out.trans h0)).2.2.1; omega))
          rcases HC.out with ⟨h0, hv, hev⟩ | ⟨h0, hal, hv, hev⟩ | ⟨h0, hal, hv, hev⟩
          · subst hv hev
            have e1 : (ev == 0) = false := by simpa using h0
            have e2 : (ev != 0) = true := by simpa using h0
            have e3 : decide (ev = 0) = false := by simpa using h0
            clear x0 y1 y2 d1 d2 q0 q1 q2 q3 q4 hbc bw bq h0
            go_wp2
            go_roundw
            case rel => exact NX.out _ (Below.refl _ _)
            case measure => simp [intOf]; omega
          · have RB := Lib.hid (RAL.out h0)
            rw [hal] at RB
            subst h0 hv hev
            clear hal
            go_wp2_with fail
            refine wp_region_after (by kernel_rfl) (by kernel_rfl) ?_
            repeat (go_big_quiet_step ((go_at_call 27; exact Calls.after (RB.out _ (thru bw (After.bel _))))))
            refine wpQuiet_nil ?_
            rintro _ ⟨⟨W, hW⟩, rfl⟩
            go_wp2
            go_roundw
            case rel => exact NX.out _ hW
            case measure => simp [intOf]; omega
          · have RB := Lib.hid (RAL.out h0)
            rw [hal] at RB
            have ao := al_out hal
            have hok := checkF_ok (HE.out.trans h0)
            have RV := Lib.hid (fun W (hb : Below w.heap.size w W) => refValue_any A n cap B l x1 x2 W (h.below (hb.mono hB)) (Nat.le_trans hB hb.size) (by omega) hok.2.1 (by omega) (by omega))
            rw [← hv] at RV
            subst h0 hev
            clear hal hv ao hok
            go_wp2_with fail
            refine wp_region_after (by kernel_rfl) (by kernel_rfl) ?_
            repeat (go_big_quiet_step ((go_at_call 27; exact Calls.after (RB.out _ (thru bw (After.bel _))))))
            refine wpQuiet_nil ?_
            rintro W ⟨⟨_, hW⟩, rfl⟩
            obtain ⟨x0, y1, y2, d1, d2⟩ := SK.out W (thru hbc hW)
            go_wp2_with (go_at_call 28; refine (RV.out _ (thru bw hW)).mono ?_; rintro e w1 ⟨rfl, hb1⟩)
            go_roundw
            case rel => exact NX.out _ (thru hW hb1)
            case measure => simp [intOf]; omega
      · go_wp2
        go_meet
        exact HBR.out
  case rest =>
    rename_i hK
    exact hK _ _ (values_end A n cap B l s1 s2 s3 A2 n2 cap2 B2 bs w h hB hn h2 hB2 hn2 _ (HVL.out.below hcut) g tv te ae c1 c2 c3 E HT.out HA.out HE.out (HG.out.below hcut HG.out.lt) _ _ _ _ _ _ _ _ _ _ _ _ _ _ _ _ _ _ _ _ _ _ _ _ _ _ _ _ _ _ _ _ _ _ _ _ _ _ _ _ _ _ _ _ _ _ _ _ _ _ _ _ _ _ _ _ _ _ _ _ _ _ _ _ _ _ _ _ _ _ _ _ _ _ _ _ _ _ _ _ _ _ _ _ _ _ _ _ _ _ _ _ _ _ _ _ _ _ _ _ _ _ _ _ _ _ _ _ _ _ _ _ _ _ _ _ _ _ _ _ _ _ _ _ _ _ _ _ _ _ _ _ _ _ _ _ _ _ _ _ _ _ _ _ _ _ _ _ _ _ _ _ _ _ _ _ _ _ _ _ _ _ _ _ _ _ _ _ _ _ _ _ _ _ _ _ _ _ _ _ _ _ _ _ _ _ _)
end Go.Proofs.Ytlkfcbdbieenhaa
