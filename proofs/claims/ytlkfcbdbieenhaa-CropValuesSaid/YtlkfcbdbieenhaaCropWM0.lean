/-
  The law of chapter 7 on values: CropValues, its middle.
-/
import Derived.Test.YtlkfcbdbieenhaaCropWL
namespace Go.Proofs.Ytlkfcbdbieenhaa
open Go.RowKit

set_option maxRecDepth 100000 in
set_option maxHeartbeats 16000000 in
theorem values_mid (A : Option Addr) (n cap B : Nat) (l : List St) (s1 s2 s3 : Int) (A2 : Option Addr) (n2 cap2 B2 : Nat) (bs : List Bl) (w : World) (h : Sl eII 2 w B A n l) (hB : B ≤ w.heap.size) (hn : n ≤ 70)
    (h2 : Sl eII 2 w B2 A2 n2 bs) (hB2 : B2 ≤ w.heap.size) (hn2 : n2 ≤ 40) (wq : World) (hvl : VL w wq s1 s2 s3) (A3 : Option Addr) (cap3 : Nat) (h3 : Sl eII 2 wq wq.heap.size A3 n l)
    (u3 u5 u6 u8 u9 u10 u11 u12 u13 u14 u15 u16 u17 u18 u19 u20 u21 u22 u23 u24 u25 u26 u27 u28 u29 u30 u31 u32 u33 u34 u35 u36 u37 u38 u39 u40 u41 u42 u43 u44 u45 u46 u47 u48 u49 u50 u51 u52 u53 u54 u55 u56 u57 u58 u59 u60 u61 u62 u63 u64 u65 u66 u67 u68 u69 u70 u71 u72 u73 u74 u75 u76 u77 u78 u79 u80 u81 u82 u83 u84 u85 u86 u87 u88 u89 u90 u91 u92 u93 u94 u95 u96 u97 u98 u99 u100 u101 u102 u103 u104 u105 u106 u107 u108 u109 u110 u111 u112 u113 u114 u115 u116 u117 u118 u119 u120 u121 u122 u123 u124 u125 u126 u127 u128 u129 u130 u131 u132 u133 u134 u135 u136 u137 u138 u139 u140 u141 u142 u143 u144 u145 u146 u147 u148 u149 u150 u151 u152 u153 u154 u155 u156 u157 u158 u159 u160 u161 u162 u163 u164 u165 u166 u167 u168 u169 u170 u171 u172 u173 u174 u175 u176 u177 u178 u179 u180 u181 u182 u183 u184 u185 u186 u187 u188 u189 u190 u191 u192 u193 u194 u195 : Value) :
    Code.wp Try.prog (codeSkip 3 (Try.f6.body.getD .skip)) (bodyPost Try.prog Try.f6 fun e w' => e = .returned (.bool true) ∧ Below w.heap.size w w')
      { tmps := #[.slice A n cap, .agg #[.int .i64 s1, .int .i64 s2, .int .i64 s3], .slice A2 n2 cap2, u3, .pointer (some ⟨w.heap.size, 0, none⟩), u5, u6, .slice A3 n cap3, u8, u9, u10, u11, u12, u13, u14, u15, u16, u17, u18, u19, u20, u21, u22, u23, u24, u25, u26, u27, u28, u29, u30, u31, u32, u33, u34, u35, u36, u37, u38, u39, u40, u41, u42, u43, u44, u45, u46, u47, u48, u49, u50, u51, u52, u53, u54, u55, u56, u57, u58, u59, u60, u61, u62, u63, u64, u65, u66, u67, u68, u69, u70, u71, u72, u73, u74, u75, u76, u77, u78, u79, u80, u81, u82, u83, u84, u85, u86, u87, u88, u89, u90, u91, u92, u93, u94, u95, u96, u97, u98, u99, u100, u101, u102, u103, u104, u105, u106, u107, u108, u109, u110, u111, u112, u113, u114, u115, u116, u117, u118, u119, u120, u121, u122, u123, u124, u125, u126, u127, u128, u129, u130, u131, u132, u133, u134, u135, u136, u137, u138, u139, u140, u141, u142, u143, u144, u145, u146, u147, u148, u149, u150, u151, u152, u153, u154, u155, u156, u157, u158, u159, u160, u161, u162, u163, u164, u165, u166, u167, u168, u169, u170, u171, u172, u173, u174, u175, u176, u177, u178, u179, u180, u181, u182, u183, u184, u185, u186, u187, u188, u189, u190, u191, u192, u193, u194, u195], defers := [] } wq := by
  conv => arg 2; whnf
  dsimp only
  have HVL := Lib.hid hvl
  have hlen := h.len
  have hlen2 := h2.len
  have CK := Lib.hid (fun W (hb : Below wq.heap.size wq W) => check_any A3 n cap3 wq.heap.size l s1 s2 s3 W (h3.below hb) hb.size (by omega))
  have RK := Lib.hid (fun W (hb : Below w.heap.size w W) => refCheck_any A n cap B l s1 s2 s3 W (h.below (hb.mono hB)) (Nat.le_trans hB hb.size) (by omega))
  obtain ⟨E, hE⟩ : ∃ E, checkF l (s1, s2, s3) = E := ⟨_, rfl⟩
  rw [hE] at CK RK
  have HE := Lib.hid hE
  obtain ⟨tv, te, hT⟩ : ∃ tv te : Int, totalF l s1 s2 s3 bs = (tv, te) := ⟨_, _, rfl⟩
  obtain ⟨c1, c2, c3, ae, hA⟩ : ∃ c1 c2 c3 ae : Int, accF l s1 s2 s3 bs = ((c1, c2, c3), ae) := ⟨_, _, _, _, rfl⟩
  have HT := Lib.hid hT
  have HA := Lib.hid hA
  have TT := Lib.hid (fun W (hb : Below wq.heap.size wq W) A5 n5 cap5 (h5 : Sl eII 2 W W.heap.size A5 n5 bs) (hn5 : n5 ≤ 100000) => bigTotal_any A3 n cap3 wq.heap.size l s1 s2 s3 A5 n5 cap5 W.heap.size bs W (h3.below hb) hb.size (by omega) h5 (Nat.le_refl _) hn5)
  have AA := Lib.hid (fun W (hb : Below wq.heap.size wq W) A5 n5 cap5 (h5 : Sl eII 2 W W.heap.size A5 n5 bs) (hn5 : n5 ≤ 100000) => account_any A3 n cap3 wq.heap.size l s1 s2 s3 A5 n5 cap5 W.heap.size bs W (h3.below hb) hb.size (by omega) h5 (Nat.le_refl _) hn5)
  rw [hT] at TT
  rw [hA] at AA
  unfold acV at AA
  simp only at TT AA
  have LI := Lib.hid (fun W (hb : Below wq.heap.size wq W) => list_any A2 n2 cap2 B2 bs W (h2.below ((thru hvl.2 hb).mono hB2)) (Nat.le_trans hB2 (thru hvl.2 hb).size) (by omega))
  have SK := Lib.hid (fun W (hW : Below wq.heap.size wq W) => show W.cell? ⟨w.heap.size, 0, none⟩ = some (.int .i64 s1) ∧ W.cell? ⟨w.heap.size, 1, none⟩ = some (.int .i64 s2) ∧ W.cell? ⟨w.heap.size, 2, none⟩ = some (.int .i64 s3) from (HVL.out.below hW).1.c3.1)
  have H3 := Lib.hid h3
  obtain ⟨x0, x1, x2⟩ := SK.out wq (Below.refl _ _)
  clear hE hT hA hvl h3
  go_upto_region 5 with (go_at_call 24; refine (CK.out _ (Below.refl _ _)).mono ?_; rintro e w1 ⟨rfl, hb1⟩)
  have lbi := hb1
  generalize hwi : w1 = wi at *
  clear hwi hb1 x0 x1 x2
  go_cut [9, 10] (fun s9 s10 wx => s9 = .int .i64 tv ∧ s10 = .int .i64 te ∧ Below wq.heap.size wq wx)
  case first =>
    go_region_held3 (fun W => W.cell? ⟨w.heap.size, 0, none⟩ = some (.int .i64 s1) ∧ W.cell? ⟨w.heap.size, 1, none⟩ = some (.int .i64 s2) ∧ W.cell? ⟨w.heap.size, 2, none⟩ = some (.int .i64 s3)) ((refine SK.out _ ?_; repeat (first | (with_reducible exact lb2) | (with_reducible exact lb1) | (with_reducible exact lbi) | (with_reducible apply bdr) | (with_reducible apply ba)))) (first
      | (go_at_call 20; (with_reducible refine (LI.out wi.drew (bdr lbi)).mono ?_); rintro e w1 ⟨A5, n5, cap5, rfl, hown5, hb1⟩; have lb1 := thru (bdr lbi) hb1; have hs1 := lb1.size; have hsl5 := hown5.toSl enc2; have hn5 : n5 ≤ 100000 := (by (have := hsl5.len; omega)); dsimp only)
      | (go_at_call 25; (with_reducible refine (TT.out w1 lb1 A5 n5 cap5 hsl5 hn5).mono ?_); rintro e w2 ⟨rfl, hb2⟩; have lb2 := thru lb1 hb2; dsimp only))
    all_goals
      clear hown5 hsl5
      go_wp2_with fail
      go_meet
      exact ⟨rfl, rfl, lb2⟩
  case rest =>
    obtain ⟨rfl, rfl, hbc⟩ := hcut
    clear lbi
    generalize hwj : wc = wj at *
    clear hwj
    have lbi : Below wj.heap.size wj wj := Below.refl _ _
    have HJ := Lib.hid hbc
    have SJ := Lib.hid (fun W (hW : Below wj.heap.size wj W) => SK.out W (thru hbc hW))
    clear hbc
    have SKJ := Lib.hid (fun W (hW : Below wj.heap.size wj W) => show W.cell? ⟨w.heap.size, 0, none⟩ = some (.int .i64 s1) ∧ W.cell? ⟨w.heap.size, 1, none⟩ = some (.int .i64 s2) ∧ W.cell? ⟨w.heap.size, 2, none⟩ = some (.int .i64 s3) from SJ.out W hW)
    go_wp2_with fail
    go_cut [11, 12] (fun s11 s12 wx => ∃ g : Nat, s11 = .pointer (some ⟨g, 0, none⟩) ∧ s12 = .int .i64 ae ∧ Bk wx g 45 #[.int .i64 c1, .int .i64 c2, .int .i64 c3] ∧ Below wj.heap.size wj wx)
    case first =>
      go_region_held3 (fun W => W.cell? ⟨w.heap.size, 0, none⟩ = some (.int .i64 s1) ∧ W.cell? ⟨w.heap.size, 1, none⟩ = some (.int .i64 s2) ∧ W.cell? ⟨w.heap.size, 2, none⟩ = some (.int .i64 s3)) ((refine SKJ.out _ ?_; repeat (first | (with_reducible exact lb2) | (with_reducible exact lb1) | (with_reducible exact lbi) | (with_reducible apply bdr) | (with_reducible apply ba) | (with_reducible refine Go.Proofs.Ytlkfcbdbieenhaa.bs ?_ (by simp <;> omega))))) (first
        | (go_at_call 20; (with_reducible refine (LI.out wj.drew (thru HJ.out (bdr lbi))).mono ?_); rintro e w1 ⟨A5, n5, cap5, rfl, hown5, hb1⟩; have lb1 := thru (bdr lbi) hb1; have hs1 := lb1.size; have hsl5 := hown5.toSl enc2; have hn5 : n5 ≤ 100000 := (by (have := hsl5.len; omega)); dsimp only)
        | (go_at_call 20; (with_reducible refine (LI.out (wj.alloc (.cells #[.int .i64 0, .int .i64 0, .int .i64 0] 45)).drew (thru HJ.out (bdr (ba lbi)))).mono ?_); rintro e w1 ⟨A5, n5, cap5, rfl, hown5, hb1⟩; have lb1 := thru (bdr (ba lbi)) hb1; have kq := (Bk.newAt wj #[.int .i64 0, .int .i64 0, .int .i64 0] 45 wj.heap.size rfl).drew.below hb1 (by simp); have hsl5 := hown5.toSl enc2; have hn5 : n5 ≤ 100000 := (by (have := hsl5.len; omega)); dsimp only)
        | (go_at_call 22; (with_reducible refine (AA.out w1 (thru HJ.out lb1) A5 n5 cap5 hsl5 hn5).mono ?_); rintro e w2 ⟨rfl, hb2⟩; have lb2 := thru lb1 hb2; have kq := kq.below hb2 kq.lt; obtain ⟨⟨k0, k1, k2⟩, ⟨f0, f1, f2⟩⟩ := kq.c3; dsimp only)
        | (go_at_call 22; (with_reducible refine (AA.out w1 (thru HJ.out lb1) A5 n5 cap5 hsl5 hn5).mono ?_); rintro e w2 ⟨rfl, hb2⟩; have lb2 := thru lb1 hb2; dsimp only)
        | (go_at_call 22; (with_reducible refine (AA.out (w1.alloc (.cells #[.int .i64 0, .int .i64 0, .int .i64 0] 45)) (thru HJ.out (ba lb1)) A5 n5 cap5 ((hsl5.below (ba (Below.refl _ _))).more (by simp)) hn5).mono ?_); rintro e w2 ⟨rfl, hb2⟩; have lb2 := thru (ba lb1) hb2; have kq := (Bk.newAt w1 #[.int .i64 0, .int .i64 0, .int .i64 0] 45 w1.heap.size rfl).below hb2 (by simp); obtain ⟨⟨k0, k1, k2⟩, ⟨f0, f1, f2⟩⟩ := kq.c3; dsimp only))
      all_goals
        clear hown5 hsl5
        first
          | (have fin := Bk.newAt w2 #[.int .i64 c1, .int .i64 c2, .int .i64 c3] 45 w2.heap.size rfl
             have fin2 := ba (o := .cells #[.int .i64 c1, .int .i64 c2, .int .i64 c3] 45) lb2
             go_wp2_with fail
             go_meet
             exact ⟨w2.heap.size, rfl, rfl, fin, fin2⟩)
          | (have fin := ((kq.put 0 (.int .i64 c1) #[.int .i64 c1, .int .i64 0, .int .i64 0] rfl).put 1 (.int .i64 c2) #[.int .i64 c1, .int .i64 c2, .int .i64 0] rfl).put 2 (.int .i64 c3) #[.int .i64 c1, .int .i64 c2, .int .i64 c3] rfl
             have fin2 := Go.Proofs.Ytlkfcbdbieenhaa.bs (u := .int .i64 c3) (Go.Proofs.Ytlkfcbdbieenhaa.bs (u := .int .i64 c2) (Go.Proofs.Ytlkfcbdbieenhaa.bs (p := ⟨w1.heap.size, 0, none⟩) (u := .int .i64 c1) lb2 hs1) (p := ⟨w1.heap.size, 1, none⟩) hs1) (p := ⟨w1.heap.size, 2, none⟩) hs1
             go_wp2_with fail
             go_meet
             exact ⟨w1.heap.size, rfl, rfl, fin, fin2⟩)
          | (have fin := ((kq.put 0 (.int .i64 c1) #[.int .i64 c1, .int .i64 0, .int .i64 0] rfl).put 1 (.int .i64 c2) #[.int .i64 c1, .int .i64 c2, .int .i64 0] rfl).put 2 (.int .i64 c3) #[.int .i64 c1, .int .i64 c2, .int .i64 c3] rfl
             have fin2 := Go.Proofs.Ytlkfcbdbieenhaa.bs (u := .int .i64 c3) (Go.Proofs.Ytlkfcbdbieenhaa.bs (u := .int .i64 c2) (Go.Proofs.Ytlkfcbdbieenhaa.bs (p := ⟨wj.heap.size, 0, none⟩) (u := .int .i64 c1) lb2 (Nat.le_refl _)) (p := ⟨wj.heap.size, 1, none⟩) (Nat.le_refl _)) (p := ⟨wj.heap.size, 2, none⟩) (Nat.le_refl _)
             go_wp2_with fail
             go_meet
             exact ⟨wj.heap.size, rfl, rfl, fin, fin2⟩)
    case rest =>
      obtain ⟨g, rfl, rfl, kg, hbk⟩ := hcut
      have HKG := Lib.hid kg
      have bk2 := thru HJ.out hbk
      have bk3 := thru HVL.out.2 bk2
      have hlg := kg.lt
      obtain ⟨x0, x1, x2⟩ := SK.out wc bk2
      clear kg lbi
      go_upto_block 0 with (go_at_call 12; refine (RK.out _ bk3).mono ?_; rintro e w1 ⟨rfl, hb1⟩)
      have lb4 := thru bk2 hb1
      have HKG4 := Lib.hid (HKG.out.below hb1 hlg)
      clear x0 x1 x2
      go_cut [14] (fun s14 wx => Below w1.heap.size w1 wx)
      case first =>
        go_wp2_with fail
        go_loopw [14] (fun v wr => ∃ k : Nat, k ≤ n ∧ v = .int .i64 k ∧ Below w1.heap.size w1 wr) (fun v _ => n - (intOf v).toNat)
        case atStart => exact ⟨0, Nat.zero_le _, rfl, Below.refl _ _⟩
        case round =>
          obtain ⟨k, hk, rfl, hbr⟩ := hrel
          by_cases hlt : k < n
          · have b4 := thru lb4 hbr
            obtain ⟨x, hx⟩ := h.get hlt
            obtain ⟨b, off, rfl, hb, d1, d2⟩ := (h.below ((thru HVL.out.2 b4).mono hB)).at2 hx
            obtain ⟨b3, off3, rfl, hb3, d3, d4⟩ := (H3.out.below b4).at2 hx
            clear hx b4
            go_wp2
            go_quiet (fail)
            go_wp2
            go_roundw
            case rel => exact ⟨k + 1, by omega, by go_num, below_drewN hbr _⟩
            case measure => simp [intOf]; omega
          · go_wp2
            go_meet
            exact hbr
      case rest =>
        rename_i hK
        have lb5 := thru lb4 hcut
        exact hK _ _ (values_loop A n cap B l s1 s2 s3 A2 n2 cap2 B2 bs w h hB hn h2 hB2 hn2 _ (HVL.out.below lb5) g tv te ae c1 c2 c3 E HT.out HA.out HE.out (HKG4.out.below hcut HKG4.out.lt) _ _ _ _ _ _ _ _ _ _ _ _ _ _ _ _ _ _ _ _ _ _ _ _ _ _ _ _ _ _ _ _ _ _ _ _ _ _ _ _ _ _ _ _ _ _ _ _ _ _ _ _ _ _ _ _ _ _ _ _ _ _ _ _ _ _ _ _ _ _ _ _ _ _ _ _ _ _ _ _ _ _ _ _ _ _ _ _ _ _ _ _ _ _ _ _ _ _ _ _ _ _ _ _ _ _ _ _ _ _ _ _ _ _ _ _ _ _ _ _ _ _ _ _ _ _ _ _ _ _ _ _ _ _ _ _ _ _ _ _ _ _ _ _ _ _ _ _ _ _ _ _ _ _ _ _ _ _ _ _ _ _ _ _ _ _ _ _ _ _ _ _ _ _ _ _ _ _ _ _ _ _ _ _ _ _ _)
end Go.Proofs.Ytlkfcbdbieenhaa
