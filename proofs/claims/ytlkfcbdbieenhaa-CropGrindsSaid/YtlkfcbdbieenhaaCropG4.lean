/-
  The law of chapter 7 on grinding: CropGrinds, its end.
-/
import Derived.Test.YtlkfcbdbieenhaaCropG3
import Derived.Test.YtlkfcbdbieenhaaCropKn
import Derived.Deep.DeepCutAuto
import Derived.Deep.CutBlock
import Derived.BigQuiet
import Derived.Deep.QuietTactic
namespace Go.Proofs.Ytlkfcbdbieenhaa
open Go.RowKit

theorem Sl.atG {w : World} {B : Nat} {A : Option Addr} {n k : Nat} {xs : List Int} (h : Sl eG 1 w B A n xs) {x : Int} (hk : xs[k]? = some x) : ∃ b off, A = some ⟨b, off, none⟩ ∧ b < B ∧ w.cell? ⟨b, off + k, none⟩ = some (.int .u8 x) := by
  obtain ⟨b, off, e, hb, hc⟩ := h.at_ hk
  exact ⟨b, off, e, hb, by simpa using hc 0 _ rfl⟩
theorem elSl : Elem Try.prog 64 40 3 24 := Elem.of (z := .agg #[.int .i64 0, .int .i64 0, .int .i64 0]) (by kernel_rfl) (by kernel_rfl) rfl (by decide)

/-- The law's memory: the box of the slab. -/
def GL (w wr : World) (a b c : Int) : Prop := Bk wr w.heap.size 40 #[.int .i64 a, .int .i64 b, .int .i64 c] ∧ Below w.heap.size w wr
theorem GL.below {w wr w1 : World} {a b c : Int} (h : GL w wr a b c) (hb : Below wr.heap.size wr w1) : GL w w1 a b c := ⟨h.1.below hb h.1.lt, h.2.trans (hb.mono h.2.size)⟩

theorem all_snoc {l : List S3} {k : Nat} {x : S3} (h : l[k]? = some x) : (l.take (k + 1)).all okS = ((l.take k).all okS && okS x) := by
  rw [take_snoc h, List.all_append]
  simp

/-- A function's statements from the n-th on. -/
def seqSkip : Nat → Code → Code
  | 0, c => c
  | n + 1, .seq _ b => seqSkip n b
  | _, c => c

set_option maxRecDepth 100000 in
set_option maxHeartbeats 16000000 in
theorem grinds_rest2 (A : Option Addr) (n cap B : Nat) (l : List S3) (a b c d : Int) (w : World) (h : Sl eIII 3 w B A n l) (hB : B ≤ w.heap.size) (g1 : ¬ 70 < n) (wz wq : World)
    (A3 : Option Addr) (n3 cap3 : Nat) (gs : List Int) (R v : Int) (hgs : Sl eG 1 wz wz.heap.size A3 n3 gs) (hR : roF l d = R) (hgl : gs = (if R = 0 then l.map (gradeF d) else [])) (hbl : Below w.heap.size w wz)
    (hv : v = (if l.all okS = true then 0 else 2)) (hbq : Below wz.heap.size wz wq)
    (u3 u4 u5 u6 u7 u8 u9 u10 u14 u15 u16 u17 u18 u19 u20 u21 u22 u23 u24 u25 u26 u27 u28 u29 u30 u31 u32 u33 u34 u35 u36 u37 u38 u39 u40 u41 u42 u43 u44 u45 u46 u47 u48 u49 u50 u51 u52 u53 u54 u55 u56 u57 u58 u59 u60 u61 u62 u63 u64 u65 u66 u67 u68 u69 u70 u71 u72 u73 u74 u75 u76 u77 u78 u79 u80 u81 u82 u83 u84 u85 u86 u87 u88 u89 u90 u91 u92 u93 u94 u95 u96 u97 u98 u99 u100 u101 u102 u103 u104 u105 u106 u107 u108 u109 u110 u111 u112 u113 u114 u115 u116 u117 u118 u119 u120 u121 u122 u123 u124 u125 u126 u127 u128 u129 u130 u131 u132 u133 u134 u135 u136 u137 u138 u139 u140 u141 u142 u143 u144 u145 u146 u147 u148 u149 u150 u151 u152 u153 u154 u155 u156 u157 u158 u159 u160 u161 u162 u163 u164 u165 u166 u167 u168 u169 u170 u171 u172 u173 u174 u175 u176 u177 u178 u179 u180 u181 u182 u183 u184 u185 u186 u187 u188 u189 u190 u191 u192 u193 u194 u195 u196 u197 u198 u199 u200 u201 u202 u203 u204 u205 u206 u207 u208 u209 u210 u211 u212 u213 u214 u215 u216 u217 u218 u219 u220 u221 u222 u223 u224 u225 u226 u227 u228 : Value) :
    Code.wp Try.prog (seqSkip 7 (Try.f7.body.getD .skip)) (bodyPost Try.prog Try.f7 fun e w' => e = .returned (.bool true) ∧ Below w.heap.size w w')
      { tmps := #[.agg #[.int .i64 a, .int .i64 b, .int .i64 c], .slice A n cap, .int .i64 d, u3, u4, u5, u6, u7, u8, u9, u10, .slice A3 n3 cap3, .int .i64 R, .int .i64 v, u14, u15, u16, u17, u18, u19, u20, u21, u22, u23, u24, u25, u26, u27, u28, u29, u30, u31, u32, u33, u34, u35, u36, u37, u38, u39, u40, u41, u42, u43, u44, u45, u46, u47, u48, u49, u50, u51, u52, u53, u54, u55, u56, u57, u58, u59, u60, u61, u62, u63, u64, u65, u66, u67, u68, u69, u70, u71, u72, u73, u74, u75, u76, u77, u78, u79, u80, u81, u82, u83, u84, u85, u86, u87, u88, u89, u90, u91, u92, u93, u94, u95, u96, u97, u98, u99, u100, u101, u102, u103, u104, u105, u106, u107, u108, u109, u110, u111, u112, u113, u114, u115, u116, u117, u118, u119, u120, u121, u122, u123, u124, u125, u126, u127, u128, u129, u130, u131, u132, u133, u134, u135, u136, u137, u138, u139, u140, u141, u142, u143, u144, u145, u146, u147, u148, u149, u150, u151, u152, u153, u154, u155, u156, u157, u158, u159, u160, u161, u162, u163, u164, u165, u166, u167, u168, u169, u170, u171, u172, u173, u174, u175, u176, u177, u178, u179, u180, u181, u182, u183, u184, u185, u186, u187, u188, u189, u190, u191, u192, u193, u194, u195, u196, u197, u198, u199, u200, u201, u202, u203, u204, u205, u206, u207, u208, u209, u210, u211, u212, u213, u214, u215, u216, u217, u218, u219, u220, u221, u222, u223, u224, u225, u226, u227, u228], defers := [] } wq := by
  conv => arg 2; whnf
  have hlen := h.len
  have KN := Lib.hid (fun W => known_any W)
  have HS := Lib.hid (fun W (hb : Below wz.heap.size wz W) => h.below ((hbl.trans (hb.mono hbl.size)).mono hB))
  have hbw := hbl.trans (hbq.mono hbl.size)
  have hgq : Sl eG 1 wq wz.heap.size A3 n3 gs := hgs.below hbq
  clear hgs
  by_cases h60 : 60 < n
  · have i60 : (60 : Int) < n := by omega
    obtain rfl : R = 5 := by rw [← hR, roF, if_pos (by omega)]
    obtain rfl : n3 = 0 := by have := hgq.len; rw [hgl, if_neg (by decide)] at this; simpa using this.symm
    clear hgl hgq hR
    have fin : ∀ w1, Below wq.heap.size wq w1 → Below w.heap.size w w1 := fun w1 hb1 => hbw.trans (hb1.mono hbw.size)
    cases h1 : l.all okS
    · rw [h1, if_neg (by decide)] at hv
      subst hv
      go_wp2_with (go_at_call 14; refine (KN.out _).mono ?_; rintro e w1 ⟨rfl, hb1⟩)
      go_ret
      exact ⟨rfl, fin _ hb1⟩
    · rw [h1, if_pos rfl] at hv
      subst hv
      by_cases hd1 : d < 1
      · go_wp2_with (go_at_call 14; refine (KN.out _).mono ?_; rintro e w1 ⟨rfl, hb1⟩)
        go_ret
        exact ⟨rfl, fin _ hb1⟩
      · have e1 : decide (d < 1) = false := by simpa using hd1
        by_cases hd2 : 500000 < d
        · go_wp2_with (go_at_call 14; refine (KN.out _).mono ?_; rintro e w1 ⟨rfl, hb1⟩)
          go_ret
          exact ⟨rfl, fin _ hb1⟩
        · have e2 : decide (500000 < d) = false := by simpa using hd2
          go_wp2_with (go_at_call 14; refine (KN.out _).mono ?_; rintro e w1 ⟨rfl, hb1⟩)
          go_ret
          exact ⟨rfl, fin _ hb1⟩
  · have i60 : decide ((60 : Int) < n) = false := by simp; omega
    have fin : ∀ w1, Below wq.heap.size wq w1 → Below w.heap.size w w1 := fun w1 hb1 => hbw.trans (hb1.mono hbw.size)
    cases h1 : l.all okS
    · obtain rfl : R = 2 := by rw [← hR, roF, if_neg (by omega), if_pos h1]
      obtain rfl : n3 = 0 := by have := hgq.len; rw [hgl, if_neg (by decide)] at this; simpa using this.symm
      clear hgl hgq hR
      rw [h1, if_neg (by decide)] at hv
      subst hv
      go_wp2_with (go_at_call 14; refine (KN.out _).mono ?_; rintro e w1 ⟨rfl, hb1⟩)
      go_ret
      exact ⟨rfl, fin _ hb1⟩
    · rw [h1, if_pos rfl] at hv
      subst hv
      cases h2 : inB d 1 500000
      · obtain rfl : R = 3 := by rw [← hR, roF, if_neg (by omega), if_neg (by simp [h1]), if_pos h2]
        obtain rfl : n3 = 0 := by have := hgq.len; rw [hgl, if_neg (by decide)] at this; simpa using this.symm
        clear hgl hgq hR
        have hout := inB_out h2
        by_cases hd1 : d < 1
        · go_wp2_with (go_at_call 14; refine (KN.out _).mono ?_; rintro e w1 ⟨rfl, hb1⟩)
          go_ret
          exact ⟨rfl, fin _ hb1⟩
        · have e1 : decide (d < 1) = false := by simpa using hd1
          have hd2 : 500000 < d := by omega
          go_wp2_with (go_at_call 14; refine (KN.out _).mono ?_; rintro e w1 ⟨rfl, hb1⟩)
          go_ret
          exact ⟨rfl, fin _ hb1⟩
      · obtain rfl : R = 0 := by rw [← hR, roF, if_neg (by omega), if_neg (by simp [h1]), if_neg (by simp [h2])]
        rw [if_pos rfl] at hgl
        subst hgl
        obtain rfl : n3 = n := by have := hgq.len; simp at this; omega
        have hd := inB_iff.1 h2
        have e1 : decide (d < 1) = false := by simp; omega
        have e2 : decide (500000 < d) = false := by simp; omega
        have H1 := Lib.hid h1
        clear hR
        go_wp2_with fail
        go_loopw [15] (fun s15 wr => ∃ k : Nat, k ≤ n3 ∧ s15 = .int .i64 k ∧ Below wq.heap.size wq wr) (fun s15 _ => n3 - (intOf s15).toNat)
        case atStart => exact ⟨0, Nat.zero_le _, rfl, Below.refl _ _⟩
        case round =>
          obtain ⟨k, hk, rfl, hbr⟩ := hrel
          have hbr2 := hbq.trans (hbr.mono hbq.size)
          by_cases hlt : k < n3
          · obtain ⟨x, hx⟩ := h.get hlt
            obtain ⟨b', off, rfl, hb, c1, c2, c3⟩ := (HS.out _ hbr2).at3 hx
            obtain ⟨b3, off3, rfl, hb3, c4⟩ := (hgq.below (hbr.mono hbq.size)).atG (k := k) (x := gradeF d x) (by rw [List.getElem?_map, hx]; rfl)
            obtain ⟨x1, x2, x3⟩ := x
            have hok := okS_t (all_at H1.out hx)
            clear hx
            by_cases q1 : d ≤ x2
            · have q2 : d ≤ x3 := by omega
              rw [show gradeF d (x1, x2, x3) = 1 from if_pos q1] at c4
              go_wp2
              go_quiet (fail)
              go_wp2
              go_roundw
              case rel => exact ⟨k + 1, by omega, by go_num, below_drewN hbr _⟩
              case measure => simp [intOf]; omega
            · have q1' : decide (d ≤ x2) = false := by simpa using q1
              by_cases q2 : d ≤ x3
              · rw [show gradeF d (x1, x2, x3) = 2 by unfold gradeF; rw [if_neg q1, if_neg (show ¬ (x3 < d) by omega)]] at c4
                go_wp2
                go_quiet (fail)
                go_wp2
                go_roundw
                case rel => exact ⟨k + 1, by omega, by go_num, below_drewN hbr _⟩
                case measure => simp [intOf]; omega
              · have q2' : decide (d ≤ x3) = false := by simpa using q2
                rw [show gradeF d (x1, x2, x3) = 3 by unfold gradeF; rw [if_neg q1, if_pos (show x3 < d by omega)]] at c4
                go_wp2
                go_quiet (fail)
                go_wp2
                go_roundw
                case rel => exact ⟨k + 1, by omega, by go_num, below_drewN hbr _⟩
                case measure => simp [intOf]; omega
          · go_wp2_with (go_at_call 14; refine (KN.out _).mono ?_; rintro e w1 ⟨rfl, hb1⟩)
            go_ret
            exact ⟨rfl, fin _ (hbr.trans (hb1.mono hbr.size))⟩
end Go.Proofs.Ytlkfcbdbieenhaa
