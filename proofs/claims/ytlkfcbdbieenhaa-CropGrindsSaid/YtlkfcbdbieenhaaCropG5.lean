/-
  The law of chapter 7 on grinding: CropGrinds, its middle.
-/
import Derived.Test.YtlkfcbdbieenhaaCropG4
namespace Go.Proofs.Ytlkfcbdbieenhaa
open Go.RowKit

set_option maxRecDepth 100000 in
set_option maxHeartbeats 16000000 in
theorem grinds_rest (A : Option Addr) (n cap B : Nat) (l : List S3) (a b c d : Int) (w : World) (h : Sl eIII 3 w B A n l) (hB : B ≤ w.heap.size) (g1 : ¬ 70 < n) (wy : World) (hbw0 : Below w.heap.size w wy)
    (u3 u4 u5 u6 u7 u8 u9 u10 u11 u12 u13 u14 u15 u16 u17 u18 u19 u20 u21 u22 u23 u24 u25 u26 u27 u28 u29 u30 u31 u32 u33 u34 u35 u36 u37 u38 u39 u40 u41 u42 u43 u44 u45 u46 u47 u48 u49 u50 u51 u52 u53 u54 u55 u56 u57 u58 u59 u60 u61 u62 u63 u64 u65 u66 u67 u68 u69 u70 u71 u72 u73 u74 u75 u76 u77 u78 u79 u80 u81 u82 u83 u84 u85 u86 u87 u88 u89 u90 u91 u92 u93 u94 u95 u96 u97 u98 u99 u100 u101 u102 u103 u104 u105 u106 u107 u108 u109 u110 u111 u112 u113 u114 u115 u116 u117 u118 u119 u120 u121 u122 u123 u124 u125 u126 u127 u128 u129 u130 u131 u132 u133 u134 u135 u136 u137 u138 u139 u140 u141 u142 u143 u144 u145 u146 u147 u148 u149 u150 u151 u152 u153 u154 u155 u156 u157 u158 u159 u160 u161 u162 u163 u164 u165 u166 u167 u168 u169 u170 u171 u172 u173 u174 u175 u176 u177 u178 u179 u180 u181 u182 u183 u184 u185 u186 u187 u188 u189 u190 u191 u192 u193 u194 u195 u196 u197 u198 u199 u200 u201 u202 u203 u204 u205 u206 u207 u208 u209 u210 u211 u212 u213 u214 u215 u216 u217 u218 u219 u220 u221 u222 u223 u224 u225 u226 u227 u228 : Value) :
    Code.wp Try.prog (seqSkip 4 (Try.f7.body.getD .skip)) (bodyPost Try.prog Try.f7 fun e w' => e = .returned (.bool true) ∧ Below w.heap.size w w')
      { tmps := #[.agg #[.int .i64 a, .int .i64 b, .int .i64 c], .slice A n cap, .int .i64 d, u3, u4, u5, u6, u7, u8, u9, u10, u11, u12, u13, u14, u15, u16, u17, u18, u19, u20, u21, u22, u23, u24, u25, u26, u27, u28, u29, u30, u31, u32, u33, u34, u35, u36, u37, u38, u39, u40, u41, u42, u43, u44, u45, u46, u47, u48, u49, u50, u51, u52, u53, u54, u55, u56, u57, u58, u59, u60, u61, u62, u63, u64, u65, u66, u67, u68, u69, u70, u71, u72, u73, u74, u75, u76, u77, u78, u79, u80, u81, u82, u83, u84, u85, u86, u87, u88, u89, u90, u91, u92, u93, u94, u95, u96, u97, u98, u99, u100, u101, u102, u103, u104, u105, u106, u107, u108, u109, u110, u111, u112, u113, u114, u115, u116, u117, u118, u119, u120, u121, u122, u123, u124, u125, u126, u127, u128, u129, u130, u131, u132, u133, u134, u135, u136, u137, u138, u139, u140, u141, u142, u143, u144, u145, u146, u147, u148, u149, u150, u151, u152, u153, u154, u155, u156, u157, u158, u159, u160, u161, u162, u163, u164, u165, u166, u167, u168, u169, u170, u171, u172, u173, u174, u175, u176, u177, u178, u179, u180, u181, u182, u183, u184, u185, u186, u187, u188, u189, u190, u191, u192, u193, u194, u195, u196, u197, u198, u199, u200, u201, u202, u203, u204, u205, u206, u207, u208, u209, u210, u211, u212, u213, u214, u215, u216, u217, u218, u219, u220, u221, u222, u223, u224, u225, u226, u227, u228], defers := [] } wy := by
  conv => arg 2; whnf
  have hlen := h.len
  have hm : (0 : Nat) + n ≤ maxLen := by unfold maxLen; omega
  have o0 : Own eIII 3 40 wy.heap.size (wy.alloc (.cells #[] 40)) (some ⟨wy.heap.size, 0, none⟩) 0 0 [] := Own.lit enc3 (Nat.le_refl _) (Nat.zero_le _) rfl
  have hsl : Sl eIII 3 (wy.alloc (.cells #[] 40)) B A n l := h.below ((hbw0.trans ((Below.refl _ _).alloc hbw0.size _)).mono hB)
  dsimp only
  go_upto_region 16 with fail
  go_cut [11, 12] (fun s11 s12 wx => ∃ (A3 : Option Addr) (n3 cap3 : Nat) (gs : List Int), s11 = .slice A3 n3 cap3 ∧ s12 = .int .i64 (roF l d) ∧ Sl eG 1 wx wx.heap.size A3 n3 gs ∧ gs = (if roF l d = 0 then l.map (gradeF d) else []) ∧ Below w.heap.size w wx)
  case first =>
    go_wp2_with (first | (at_builtin; refine wpList_append_any (base := wy.heap.size) enc3 elSl rfl _ _ rfl (some ⟨wy.heap.size, 0, none⟩) 0 0 [] rfl o0 B A n cap l rfl hsl hm (by omega) (by simp) ?_; intro A' cap' w1 hown hgrow hat; have hsl1 : Sl eIII 3 w1 w1.heap.size A' (0 + n) l := hown.sl enc3; rw [Nat.zero_add] at hsl1; have hbl1 := below_of_grown (((Below.refl wy.heap.size wy).alloc (Nat.le_refl _) (.cells #[] 40))) hgrow (by simp) (Nat.le_refl _)) | (go_at_call 32; refine (round_any _ _ _ _ l _ _ hsl1 (Nat.le_refl _) (by omega)).mono ?_; rintro e w2 ⟨A3, n3, cap3, rfl, hown3, hb3⟩))
    go_meet
    exact ⟨A3, n3, cap3, _, rfl, rfl, hown3.sl encG, rfl, hbw0.trans ((hbl1.trans (hb3.mono hbl1.size)).mono hbw0.size)⟩
  case rest =>
    obtain ⟨A3, n3, cap3, gs, rfl, rfl, hgs, hgl, hbl⟩ := hcut
    clear o0 hsl
    generalize hwz : wc = wz at *
    clear hwz
    generalize hR : roF l d = R at *
    have RS := Lib.hid (fun (x : S3) W => refSlab_any x.1 x.2.1 x.2.2 W)
    have HS := Lib.hid (fun W (hb : Below wz.heap.size wz W) => h.below ((hbl.trans (hb.mono hbl.size)).mono hB))
    go_upto_block 1 with fail
    go_cut [13] (fun s13 wx => ∃ v : Int, s13 = .int .i64 v ∧ v = (if l.all okS = true then 0 else 2) ∧ Below wz.heap.size wz wx)
    case first =>
      go_wp2_with fail
      go_loopw [13, 14] (fun s13 s14 wr => ∃ (k : Nat) (v : Int), k ≤ n ∧ s14 = .int .i64 k ∧ s13 = .int .i64 v ∧ v = (if (l.take k).all okS = true then 0 else 2) ∧ Below wz.heap.size wz wr) (fun _ s14 _ => n - (intOf s14).toNat)
      case atStart => exact ⟨0, 0, Nat.zero_le _, rfl, rfl, rfl, Below.refl _ _⟩
      case round =>
        obtain ⟨k, v, hk, rfl, rfl, hv, hbz⟩ := hrel
        have HV := Lib.hid hv
        clear hv
        by_cases hlt : k < n
        · obtain ⟨x, hx⟩ := h.get hlt
          obtain ⟨b', off, rfl, hb, c1, c2, c3⟩ := (HS.out _ hbz).at3 hx
          obtain ⟨x1, x2, x3⟩ := x
          have HX := Lib.hid hx
          clear hx
          cases hok : okS (x1, x2, x3)
          · have HO := Lib.hid hok
            go_wp2_with (go_at_call 31; refine (RS.out (x1, x2, x3) _).mono ?_; rintro e w1 ⟨rfl, hb1⟩; simp only [HO.out])
            go_roundw
            case rel => exact ⟨k + 1, 2, by omega, by go_num, rfl, by rw [all_snoc HX.out, HO.out]; simp, hbz.trans (hb1.mono hbz.size)⟩
            case measure => simp [intOf]; omega
          · have HO := Lib.hid hok
            go_wp2_with (go_at_call 31; refine (RS.out (x1, x2, x3) _).mono ?_; rintro e w1 ⟨rfl, hb1⟩; simp only [HO.out])
            go_roundw
            case rel => exact ⟨k + 1, v, by omega, by go_num, rfl, by rw [all_snoc HX.out, HO.out, Bool.and_true]; exact HV.out, hbz.trans (hb1.mono hbz.size)⟩
            case measure => simp [intOf]; omega
        · go_wp2
          go_meet
          refine ⟨v, rfl, ?_, hbz⟩
          have e := HV.out
          rw [List.take_of_length_le (by omega)] at e
          exact e
    case rest =>
      rename_i hK
      obtain ⟨v, rfl, hv, hbq⟩ := hcut
      exact hK _ _ (grinds_rest2 A n cap B l a b c d w h hB g1 wz _ A3 n3 cap3 gs R v hgs hR hgl hbl hv hbq _ _ _ _ _ _ _ _ _ _ _ _ _ _ _ _ _ _ _ _ _ _ _ _ _ _ _ _ _ _ _ _ _ _ _ _ _ _ _ _ _ _ _ _ _ _ _ _ _ _ _ _ _ _ _ _ _ _ _ _ _ _ _ _ _ _ _ _ _ _ _ _ _ _ _ _ _ _ _ _ _ _ _ _ _ _ _ _ _ _ _ _ _ _ _ _ _ _ _ _ _ _ _ _ _ _ _ _ _ _ _ _ _ _ _ _ _ _ _ _ _ _ _ _ _ _ _ _ _ _ _ _ _ _ _ _ _ _ _ _ _ _ _ _ _ _ _ _ _ _ _ _ _ _ _ _ _ _ _ _ _ _ _ _ _ _ _ _ _ _ _ _ _ _ _ _ _ _ _ _ _ _ _ _ _ _ _ _ _ _ _ _ _ _ _ _ _ _ _ _ _ _ _ _ _ _ _ _ _ _ _ _ _ _ _ _ _ _ _ _ _ _ _)
end Go.Proofs.Ytlkfcbdbieenhaa
