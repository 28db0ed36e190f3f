/-
  The law of chapter 7 on values: CropValues, its end.
-/
import Derived.Test.YtlkfcbdbieenhaaCropWJ
import Derived.Test.YtlkfcbdbieenhaaCropKn
import Derived.Deep.DeepCutAuto
import Derived.Deep.CutBlock
namespace Go.Proofs.Ytlkfcbdbieenhaa
open Go.RowKit

/-- A function's statements from the n-th on. -/
def codeSkip : Nat → Code → Code
  | 0, c => c
  | n + 1, .seq _ b => codeSkip n b
  | _, c => c

/-- The law's memory: the box of the saw. -/
def VL (w wr : World) (s1 s2 s3 : Int) : Prop := Bk wr w.heap.size 24 #[.int .i64 s1, .int .i64 s2, .int .i64 s3] ∧ Below w.heap.size w wr
theorem VL.below {w wr w1 : World} {s1 s2 s3 : Int} (h : VL w wr s1 s2 s3) (hb : Below wr.heap.size wr w1) : VL w w1 s1 s2 s3 := ⟨h.1.below hb h.1.lt, thru h.2 hb⟩

theorem totalF_bad {l : List St} {s1 s2 s3 : Int} {bs : List Bl} (h : checkF l (s1, s2, s3) ≠ 0) : totalF l s1 s2 s3 bs = (0, checkF l (s1, s2, s3)) := if_pos h
theorem totalF_yes {l : List St} {s1 s2 s3 : Int} {bs : List Bl} (h : checkF l (s1, s2, s3) = 0) (hr : rkF l s1 s2 s3 bs = true) : totalF l s1 s2 s3 bs = (rsum l bs, 0) := by
  have hok := checkF_ok h
  unfold totalF totF
  rw [if_neg (by simp [h]), cr_rk hok.2.1 hok.2.2.2.1, hr]
  simp [sumV_rsum hok.2.1 bs (rk_mem hr)]
theorem totalF_no {l : List St} {s1 s2 s3 : Int} {bs : List Bl} (h : checkF l (s1, s2, s3) = 0) (hr : rkF l s1 s2 s3 bs = false) : totalF l s1 s2 s3 bs = (0, 71) := by
  have hok := checkF_ok h
  unfold totalF totF
  rw [if_neg (by simp [h]), cr_rk hok.2.1 hok.2.2.2.1, hr]
  simp
theorem accF_bad {l : List St} {s1 s2 s3 : Int} {bs : List Bl} {v e : Int} (h : totalF l s1 s2 s3 bs = (v, e)) (he : e ≠ 0) : accF l s1 s2 s3 bs = ((0, 0, 0), e) := by
  unfold accF
  rw [h, if_pos he]
theorem accF_yes {l : List St} {s1 s2 s3 : Int} {bs : List Bl} (h : checkF l (s1, s2, s3) = 0) (hr : rkF l s1 s2 s3 bs = true) : accF l s1 s2 s3 bs = (raF s3 (wF l).length bs, 0) := by
  have hok := checkF_ok h
  unfold accF
  rw [totalF_yes h hr, if_neg (by simp), ac_ra hok.2.1 hr (by omega)]

set_option maxRecDepth 100000 in
set_option maxHeartbeats 16000000 in
theorem values_end (A : Option Addr) (n cap B : Nat) (l : List St) (s1 s2 s3 : Int) (A2 : Option Addr) (n2 cap2 B2 : Nat) (bs : List Bl) (w : World) (h : Sl eII 2 w B A n l) (hB : B ≤ w.heap.size) (hn : n ≤ 70)
    (h2 : Sl eII 2 w B2 A2 n2 bs) (hB2 : B2 ≤ w.heap.size) (hn2 : n2 ≤ 40) (wq : World) (hvl : VL w wq s1 s2 s3) (g : Nat) (tv te ae c1 c2 c3 E : Int) (hT : totalF l s1 s2 s3 bs = (tv, te)) (hA : accF l s1 s2 s3 bs = ((c1, c2, c3), ae)) (hE : checkF l (s1, s2, s3) = E)
    (hg : Bk wq g 45 #[.int .i64 c1, .int .i64 c2, .int .i64 c3])
    (u3 u5 u6 u7 u8 u14 u15 u16 u17 u18 u19 u20 u21 u22 u23 u24 u25 u26 u27 u28 u29 u30 u31 u32 u33 u34 u35 u36 u37 u38 u39 u40 u41 u42 u43 u44 u45 u46 u47 u48 u49 u50 u51 u52 u53 u54 u55 u56 u57 u58 u59 u60 u61 u62 u63 u64 u65 u66 u67 u68 u69 u70 u71 u72 u73 u74 u75 u76 u77 u78 u79 u80 u81 u82 u83 u84 u85 u86 u87 u88 u89 u90 u91 u92 u93 u94 u95 u96 u97 u98 u99 u100 u101 u102 u103 u104 u105 u106 u107 u108 u109 u110 u111 u112 u113 u114 u115 u116 u117 u118 u119 u120 u121 u122 u123 u124 u125 u126 u127 u128 u129 u130 u131 u132 u133 u134 u135 u136 u137 u138 u139 u140 u141 u142 u143 u144 u145 u146 u147 u148 u149 u150 u151 u152 u153 u154 u155 u156 u157 u158 u159 u160 u161 u162 u163 u164 u165 u166 u167 u168 u169 u170 u171 u172 u173 u174 u175 u176 u177 u178 u179 u180 u181 u182 u183 u184 u185 u186 u187 u188 u189 u190 u191 u192 u193 u194 u195 : Value) :
    Code.wp Try.prog (codeSkip 10 (Try.f6.body.getD .skip)) (bodyPost Try.prog Try.f6 fun e w' => e = .returned (.bool true) ∧ Below w.heap.size w w')
      { tmps := #[.slice A n cap, .agg #[.int .i64 s1, .int .i64 s2, .int .i64 s3], .slice A2 n2 cap2, u3, .pointer (some ⟨w.heap.size, 0, none⟩), u5, u6, u7, u8, .int .i64 tv, .int .i64 te, .pointer (some ⟨g, 0, none⟩), .int .i64 ae, .int .i64 E, u14, u15, u16, u17, u18, u19, u20, u21, u22, u23, u24, u25, u26, u27, u28, u29, u30, u31, u32, u33, u34, u35, u36, u37, u38, u39, u40, u41, u42, u43, u44, u45, u46, u47, u48, u49, u50, u51, u52, u53, u54, u55, u56, u57, u58, u59, u60, u61, u62, u63, u64, u65, u66, u67, u68, u69, u70, u71, u72, u73, u74, u75, u76, u77, u78, u79, u80, u81, u82, u83, u84, u85, u86, u87, u88, u89, u90, u91, u92, u93, u94, u95, u96, u97, u98, u99, u100, u101, u102, u103, u104, u105, u106, u107, u108, u109, u110, u111, u112, u113, u114, u115, u116, u117, u118, u119, u120, u121, u122, u123, u124, u125, u126, u127, u128, u129, u130, u131, u132, u133, u134, u135, u136, u137, u138, u139, u140, u141, u142, u143, u144, u145, u146, u147, u148, u149, u150, u151, u152, u153, u154, u155, u156, u157, u158, u159, u160, u161, u162, u163, u164, u165, u166, u167, u168, u169, u170, u171, u172, u173, u174, u175, u176, u177, u178, u179, u180, u181, u182, u183, u184, u185, u186, u187, u188, u189, u190, u191, u192, u193, u194, u195], defers := [] } wq := by
  conv => arg 2; whnf
  dsimp only
  have KN := Lib.hid (fun W => known_any W)
  have HVL := Lib.hid hvl
  have HG := Lib.hid hg
  have hlg := hg.lt
  by_cases h0 : E = 0
  · subst h0
    have hok := checkF_ok hE
    have RC := Lib.hid (fun W (hb : Below w.heap.size w W) => refCropping_any A n cap B l s1 s2 s3 A2 n2 cap2 B2 bs W (h.below (hb.mono hB)) (Nat.le_trans hB hb.size) (by omega) hok.2.1 hok.2.2.1 (by omega) (h2.below (hb.mono hB2)) (Nat.le_trans hB2 hb.size) (by omega))
    cases hr : rkF l s1 s2 s3 bs
    · have e1 := totalF_no (bs := bs) hE hr
      have e2 := accF_bad (bs := bs) e1 (by omega)
      rw [hT] at e1
      rw [hA] at e2
      injection e1 with e1 e3
      injection e2 with e2 e4
      injection e2 with e2 e5
      injection e5 with e5 e6
      subst e1 e2 e3 e4 e5 e6
      rw [hr] at RC
      clear hT hA hE hok hr
      obtain ⟨⟨z0, z1, z2⟩, -⟩ := hvl.1.c3
      go_wp2_with (first
        | (go_at_call 29; refine (RC.out _ HVL.out.2).mono ?_; rintro e w1 ⟨rfl, hb1⟩; have bl1 := thru HVL.out.2 hb1; obtain ⟨⟨y0, y1, y2⟩, -⟩ := (HG.out.below hb1 hlg).c3)
        | (go_at_call 14; refine (KN.out _).mono ?_; rintro e w2 ⟨rfl, hb2⟩))
      go_ret
      exact ⟨rfl, thru bl1 hb2⟩
    · have e1 := totalF_yes (bs := bs) hE hr
      have e2 := accF_yes (bs := bs) hE hr
      rw [hT] at e1
      rw [hA] at e2
      injection e1 with e1 e3
      injection e2 with e2 e4
      subst e3 e4
      have RT := Lib.hid (fun W (hb : Below w.heap.size w W) => refTotal_any A n cap B l s1 s2 A2 n2 cap2 B2 bs W (h.below (hb.mono hB)) (Nat.le_trans hB hb.size) (by omega) hok.2.1 (by omega) (h2.below (hb.mono hB2)) (Nat.le_trans hB2 hb.size) (by omega) (rk_mem hr) hok.2.2.1)
      have RA := Lib.hid (fun W (hb : Below w.heap.size w W) => refAccount_any A n cap B l s1 s2 s3 A2 n2 cap2 B2 bs W (h.below (hb.mono hB)) (Nat.le_trans hB hb.size) (by omega) hok.2.1 hok.2.2.1 (by omega) (h2.below (hb.mono hB2)) (Nat.le_trans hB2 hb.size) (by omega) (rk_in hr))
      rw [← e1] at RT
      rw [← e2] at RA
      unfold acV at RA
      simp only at RA
      rw [hr] at RC
      clear hT hA hE hok hr e1 e2
      obtain ⟨⟨z0, z1, z2⟩, -⟩ := hvl.1.c3
      go_wp2_with (first
        | (go_at_call 29; refine (RC.out _ HVL.out.2).mono ?_; rintro e w1 ⟨rfl, hb1⟩))
      have bl1 := thru HVL.out.2 hb1
      have kx1 := HVL.out.1.below hb1 HVL.out.1.lt
      have kg1 := HG.out.below hb1 hlg
      obtain ⟨⟨y0, y1, y2⟩, -⟩ := kg1.c3
      obtain ⟨⟨x0, x1, x2⟩, -⟩ := kx1.c3
      have hlx := kx1.lt
      have hlg1 := kg1.lt
      have q0 := fun m : After w1 => m.cell hlx x0
      have q1 := fun m : After w1 => m.cell hlx x1
      have q2 := fun m : After w1 => m.cell hlx x2
      have q3 := fun m : After w1 => m.cell hlg1 y0
      have q4 := fun m : After w1 => m.cell hlg1 y1
      have q5 := fun m : After w1 => m.cell hlg1 y2
      clear x0 x1 x2 y0 y1 y2 kx1 kg1 z0 z1 z2 hlx hlg1
      refine wp_region_after (by kernel_rfl) (by kernel_rfl) ?_
      repeat (go_big_quiet_step (first | (go_at_call 19; exact Calls.after (RT.out _ (thru bl1 (After.bel _)))) | (go_at_call 30; exact Calls.after (RA.out _ (thru bl1 (After.bel _)))) | (go_at_call 14; exact Calls.after (KN.out _))))
      refine wpQuiet_nil ?_
      rintro _ ⟨⟨W, hW⟩, rfl⟩
      go_wp2
      go_ret
      exact ⟨rfl, thru bl1 hW⟩
  · have e1 := totalF_bad (bs := bs) (show checkF l (s1, s2, s3) ≠ 0 by rw [hE]; exact h0)
    have e2 := accF_bad (bs := bs) e1 (by rw [hE]; exact h0)
    rw [hT, hE] at e1
    rw [hA, hE] at e2
    injection e1 with e1 e3
    injection e2 with e2 e4
    injection e2 with e2 e5
    injection e5 with e5 e6
    subst e1 e2 e3 e4 e5 e6
    have d1 : (ae == 0) = false := by simpa using h0
    have d2 : (ae != 0) = true := by simpa using h0
    have d3 : decide (ae = 0) = false := by simpa using h0
    clear hT hA hE h0
    obtain ⟨⟨y0, y1, y2⟩, -⟩ := HG.out.c3
    go_wp2_with (go_at_call 14; refine (KN.out _).mono ?_; rintro e w2 ⟨rfl, hb2⟩)
    go_ret
    exact ⟨rfl, thru HVL.out.2 hb2⟩
end Go.Proofs.Ytlkfcbdbieenhaa
