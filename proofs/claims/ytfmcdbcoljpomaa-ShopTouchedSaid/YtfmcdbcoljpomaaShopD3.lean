/-
  Chapter 11, by names: shop.Taint.
-/
import Derived.Test.YtfmcdbcoljpomaaShopD2
set_option linter.unusedSimpArgs false
set_option linter.unusedVariables false
namespace Go.Vm
open Go Go.RowKit
section
variable {P : Program} {w : Bool} {t el : TypeId} {f : TypeInfo} {s e k n i sz : Nat} {l : Fr} {h : AH} {K : Value → AH → Prop}
/-- The elements from one on. -/
theorem gen_from {j : Int} (hu : P.underlying t = some (.slice el)) (hi : P.info? el = some f) (hsz : f.size = sz) (hl : lk l s = some (.slice (some ⟨k, 0, none⟩) n openB)) (he : lk l e = some (.int .i64 j)) (hj : j = i) (hn : i < n) (q : K (.slice (some ⟨k, i * sz, none⟩) (n - i) (openB + i)) h) :
    iStep P w (.gen (.slice t (.tmp s) (some (.tmp e)) none none)) l h K := by
  subst hj
  refine ⟨_, _, ?_, q⟩
  have ho : ¬ openB < openB := Nat.lt_irrefl _
  have h1 : aSlice P t (.slice (some ⟨k, 0, none⟩) n openB) (some (.int .i64 i)) none none = some (.slice (some ⟨k, i * sz, none⟩) (n - i) (openB + i)) := by
    simp [aSlice, hu, hi, natOf, ho, hsz, Addr.add]
    omega
  have e1 : aEnv (trOf l) (.tmp s) = some (.slice (some ⟨k, 0, none⟩) n openB) := by simp only [aEnv, trOf_get, hl]
  have e2 : aOptV (aEnv (trOf l)) (some (.tmp e)) = some (some (.int .i64 i)) := by simp only [aOptV, aEnv, trOf_get, he]
  have e3 : aOptV (aEnv (trOf l)) none = some none := rfl
  simp only [aOp, e1, e2, e3, h1]
/-- All of them, though there be none. -/
theorem gen_from0 {j : Int} (hu : P.underlying t = some (.slice el)) (hi : P.info? el = some f) (hl : lk l s = some (.slice (some ⟨k, 0, none⟩) n openB)) (he : lk l e = some (.int .i64 j)) (hj : j = 0) (q : K (.slice (some ⟨k, 0, none⟩) n openB) h) :
    iStep P w (.gen (.slice t (.tmp s) (some (.tmp e)) none none)) l h K := by
  subst hj
  refine ⟨_, _, ?_, q⟩
  have ho : ¬ openB < openB := Nat.lt_irrefl _
  have h1 : aSlice P t (.slice (some ⟨k, 0, none⟩) n openB) (some (.int .i64 0)) none none = some (.slice (some ⟨k, 0, none⟩) n openB) := by
    simp [aSlice, hu, hi, natOf, ho, Addr.add]
  have e1 : aEnv (trOf l) (.tmp s) = some (.slice (some ⟨k, 0, none⟩) n openB) := by simp only [aEnv, trOf_get, hl]
  have e2 : aOptV (aEnv (trOf l)) (some (.tmp e)) = some (some (.int .i64 0)) := by simp only [aOptV, aEnv, trOf_get, he]
  have e3 : aOptV (aEnv (trOf l)) none = some none := rfl
  simp only [aOp, e1, e2, e3, h1]
theorem Hq_bump {wl : Nat} {hid : List (Nat × Nat)} {L : List (Option AObj)} : (Hq wl hid L).bump = Hq wl hid (L ++ [none]) := by
  unfold AH.bump Hq
  rw [trL_snoc]
  simp
/-- All of nothing. -/
theorem gen_from00 {j : Int} (hu : P.underlying t = some (.slice el)) (hi : P.info? el = some f) (hl : lk l s = some (.slice (some ⟨k, 0, none⟩) 0 0)) (he : lk l e = some (.int .i64 j)) (hj : j = 0) (q : K (.slice (some ⟨k, 0, none⟩) 0 0) h) :
    iStep P w (.gen (.slice t (.tmp s) (some (.tmp e)) none none)) l h K := by
  subst hj
  refine ⟨_, _, ?_, q⟩
  have h1 : aSlice P t (.slice (some ⟨k, 0, none⟩) 0 0) (some (.int .i64 0)) none none = some (.slice (some ⟨k, 0, none⟩) 0 0) := by
    have : 0 < openB := by unfold openB; decide
    simp [aSlice, hu, hi, natOf, this]
  have e1 : aEnv (trOf l) (.tmp s) = some (.slice (some ⟨k, 0, none⟩) 0 0) := by simp only [aEnv, trOf_get, hl]
  have e2 : aOptV (aEnv (trOf l)) (some (.tmp e)) = some (some (.int .i64 0)) := by simp only [aOptV, aEnv, trOf_get, he]
  have e3 : aOptV (aEnv (trOf l)) none = some none := rfl
  simp only [aOp, e1, e2, e3, h1]
/-- None of them. -/
theorem gen_fromE {j : Int} (hu : P.underlying t = some (.slice el)) (hi : P.info? el = some f) (hl : lk l s = some (.slice (some ⟨k, 0, none⟩) n openB)) (he : lk l e = some (.int .i64 j)) (hj : j = n) (hn : n ≠ 0) (q : K (.slice (some ⟨h.next, 0, none⟩) 0 openB) h.bump) :
    iStep P w (.gen (.slice t (.tmp s) (some (.tmp e)) none none)) l h K := by
  subst hj
  refine ⟨_, _, ?_, q⟩
  have ho : ¬ openB < openB := Nat.lt_irrefl _
  have h1 : ∀ h : AH, aSlice P t (.slice (some ⟨k, 0, none⟩) n openB) (some (.int .i64 n)) none none = none := fun _ => by
    simp [aSlice, hu, hi, natOf, ho, hn]
  have h2 : aSliceEnd P h t (.slice (some ⟨k, 0, none⟩) n openB) (some (.int .i64 n)) none none = some (.slice (some ⟨h.next, 0, none⟩) 0 openB, h.bump) := by
    simp [aSliceEnd, hu, hi, natOf]
  have e1 : aEnv (trOf l) (.tmp s) = some (.slice (some ⟨k, 0, none⟩) n openB) := by simp only [aEnv, trOf_get, hl]
  have e2 : aOptV (aEnv (trOf l)) (some (.tmp e)) = some (some (.int .i64 n)) := by simp only [aOptV, aEnv, trOf_get, he]
  have e3 : aOptV (aEnv (trOf l)) none = some none := rfl
  simp only [aOp, e1, e2, e3, h1 h, h2]
end
end Go.Vm
namespace Go.Proofs.Ytfmcdbcoljpomaa
open Go.RowKit Go.Vm
set_option maxRecDepth 100000
theorem u_slT : Try.prog.underlying 41 = some (.slice 60) := by kernel_rfl
theorem i_T : Try.prog.info? 60 = some ((Try.prog.info? 60).get rfl) := by kernel_rfl
theorem sz_T : ((Try.prog.info? 60).get rfl).size = 3 := by kernel_rfl
/-- All times are at least -1. -/
def geM (s : List Int × List Int) : Prop := (∀ i, i < s.1.length → -1 ≤ nth s.1 i) ∧ ∀ j, j < s.2.length → -1 ≤ nth s.2 j
theorem geM_step {s : List Int × List Int} {x : Tc} (hx : InB s.1.length s.2.length x) (h : geM s) : geM (tnS s x) := by
  have := hx.a
  refine ⟨fun i hi => ?_, fun j hj => ?_⟩
  · rw [(tnS_len s x).1] at hi
    rw [tn1 hx]
    have := h.1 i hi
    split <;> omega
  · rw [(tnS_len s x).2] at hj
    rw [tn2 hx]
    have := h.2 j hj
    split
    · omega
    · split <;> omega
theorem geM_0 {p q bad : Nat} {since : Int} (hb : bad < q) (h : 0 ≤ since) : geM (List.replicate p (-1), (List.replicate q (-1)).set bad since) := by
  refine ⟨fun i hi => ?_, fun j hj => ?_⟩
  · rw [nth_rep (by simpa using hi)]
    decide
  · have h2 := tn0_2 (p := p) (since := since) hb (i := j) (by simpa using hj)
    unfold tn0 at h2
    rw [h2]
    split <;> omega
theorem tnK_len {l : List Tc} {p q r : Nat} {since : Int} {st k : Nat} : (tnK l p q r since st k).1.length = p ∧ (tnK l p q r since st k).2.length = q := by
  unfold tnK
  rw [fold_len.1, fold_len.2]
  simp
theorem tnK_ge {l : List Tc} {p q r : Nat} {since : Int} (hb : r < q) (h : 0 ≤ since) (hl : ∀ x ∈ l, InB p q x) {st k : Nat} : geM (tnK l p q r since st k) := by
  unfold tnK
  refine fold_inv (I := geM) (p := p) (q := q) (fun x hx => hl x (List.mem_of_mem_drop (List.mem_of_mem_take hx))) (by simp) (by simp) (geM_0 hb h) fun s x hx h1 h2 h3 => geM_step ?_ h3
  rw [h1, h2]
  exact hl x (List.mem_of_mem_drop (List.mem_of_mem_take hx))
def tkV (p q : Nat) (e : Int) : Value := if e = 0 then .tuple #[.slice (some ⟨2, 0, none⟩) p openB, .slice (some ⟨3, 0, none⟩) q openB, .int .i64 0] else .tuple #[.slice none 0 0, .slice none 0 0, .int .i64 e]
def tkO (R : List Int × List Int) (e : Int) : List AObj := if e = 0 then [.cells ⟨rows eN R.1, 1, true⟩, .cells ⟨rows eN R.2, 1, true⟩] else []
/- boule/shop.Taint · slots 137 · names 0:l 1:lots 2:tools 3:bad 4:since 5:l 6:lots 7:tools 8:bad 9:since 10:lotSince 11:toolSince 12:e 13:before 14:_ 15:x 16:start 17:_ 18:_ 19:x 20:tool 21:lot · results [10, 11, 12] -/
def ir20_r0 : IC := .reg [⟨some 10, none, false, .mv (.k (.slice none 0 0))⟩,
  ⟨some 11, none, false, .mv (.k (.slice none 0 0))⟩,
  ⟨some 12, none, false, .mv (.k (.int .i64 0))⟩] (some [0, 1, 2, 3, 4])
def ir20_r1 : IC := .reg [⟨some 23, none, false, .mv (.t 0)⟩,
  ⟨some 24, none, false, .len (.t 23)⟩,
  ⟨some 25, none, false, .cmp .gtr (.t 24) (.k (.int .i64 500))⟩,
  ⟨some 22, none, false, .mv (.t 25)⟩] (some [0, 1, 2, 3, 4, 22])
def ir20_r2 : IC := .reg [⟨some 10, none, false, .mv (.k (.slice none 0 0))⟩,
  ⟨some 11, none, false, .mv (.k (.slice none 0 0))⟩,
  ⟨some 12, none, false, .mv (.k (.int .i64 5))⟩] (some [10, 11, 12])
def ir20_1 : IC := .seq ir20_r2 .ret
def ir20_r3 : IC := .reg [⟨some 27, none, false, .mv (.t 1)⟩,
  ⟨some 28, none, false, .call (.f 42) [(.t 27), (.k (.int .i64 0)), (.k (.int .i64 100))]⟩,
  ⟨some 29, none, false, .not (.t 28)⟩,
  ⟨some 30, none, false, .mv (.t 29)⟩,
  ⟨some 31, some (30, false), false, .mv (.t 2)⟩,
  ⟨some 32, some (30, false), false, .call (.f 42) [(.t 31), (.k (.int .i64 0)), (.k (.int .i64 100))]⟩,
  ⟨some 33, some (30, false), false, .not (.t 32)⟩,
  ⟨some 34, none, false, .pick (.t 30) (.k (.bool true)) (.t 33)⟩,
  ⟨some 35, none, false, .mv (.t 34)⟩,
  ⟨some 36, some (35, false), false, .mv (.t 4)⟩,
  ⟨some 37, some (35, false), false, .call (.f 42) [(.t 36), (.k (.int .i64 0)), (.k (.int .i64 100000000))]⟩,
  ⟨some 38, some (35, false), false, .not (.t 37)⟩,
  ⟨some 39, none, false, .pick (.t 35) (.k (.bool true)) (.t 38)⟩,
  ⟨some 26, none, false, .mv (.t 39)⟩] (some [0, 1, 2, 3, 4, 26])
def ir20_r4 : IC := .reg [⟨some 10, none, false, .mv (.k (.slice none 0 0))⟩,
  ⟨some 11, none, false, .mv (.k (.slice none 0 0))⟩,
  ⟨some 12, none, false, .mv (.k (.int .i64 3))⟩] (some [10, 11, 12])
def ir20_2 : IC := .seq ir20_r4 .ret
def ir20_r5 : IC := .reg [⟨some 41, none, false, .mv (.t 3)⟩,
  ⟨some 42, none, false, .mv (.t 2)⟩,
  ⟨some 43, none, false, .ar .sub (.t 42) (.k (.int .i64 1))⟩,
  ⟨some 44, none, false, .call (.f 42) [(.t 41), (.k (.int .i64 0)), (.t 43)]⟩,
  ⟨some 45, none, false, .not (.t 44)⟩,
  ⟨some 40, none, false, .mv (.t 45)⟩] (some [0, 1, 2, 3, 4, 40])
def ir20_r6 : IC := .reg [⟨some 10, none, false, .mv (.k (.slice none 0 0))⟩,
  ⟨some 11, none, false, .mv (.k (.slice none 0 0))⟩,
  ⟨some 12, none, false, .mv (.k (.int .i64 7))⟩] (some [10, 11, 12])
def ir20_3 : IC := .seq ir20_r6 .ret
def ir20_4 : IC := .cond (.t 40) ir20_3 .skip
def ir20_5 : IC := .seq ir20_r5 ir20_4
def ir20_6 : IC := .cond (.t 26) ir20_2 ir20_5
def ir20_7 : IC := .seq ir20_r3 ir20_6
def ir20_8 : IC := .cond (.t 22) ir20_1 ir20_7
def ir20_9 : IC := .seq ir20_r1 ir20_8
def ir20_10 : IC := .block 0 ir20_9
def ir20_r7 : IC := .reg [⟨some 13, none, false, .mv (.k (.int .i64 0))⟩] (some [0, 1, 2, 3, 4, 13])
def ir20_r8 : IC := .reg [⟨some 46, none, false, .mv (.t 0)⟩,
  ⟨some 47, none, false, .len (.t 46)⟩,
  ⟨some 48, none, false, .mv (.k (.int .i64 0))⟩] (some [0, 1, 2, 3, 4, 13, 46, 47, 48])
def ir20_r9 : IC := .reg [⟨some 49, none, false, .cmp .lss (.t 48) (.t 47)⟩] (some [0, 1, 2, 3, 4, 13, 46, 47, 48, 49])
def ir20_11 : IC := .cond (.t 49) .skip (.exit 1)
def ir20_r10 : IC := .reg [⟨some 50, none, false, .iad 3 (.t 46) (.t 48)⟩,
  ⟨some 51, none, false, .lda 3 (.t 50)⟩,
  ⟨some 15, none, false, .alloc [(.int .i64 0), (.int .i64 0), (.int .i64 0)]⟩,
  ⟨none, none, false, .st 3 (.t 15) (.t 51)⟩] (some [0, 1, 2, 3, 4, 13, 15, 46, 47, 48])
def ir20_r11 : IC := .reg [⟨some 53, none, false, .fad 0 (.t 15)⟩,
  ⟨some 54, none, false, .ldc (.t 53)⟩,
  ⟨some 55, none, false, .mv (.t 13)⟩,
  ⟨some 56, none, false, .call (.f 42) [(.t 54), (.t 55), (.k (.int .i64 100000000))]⟩,
  ⟨some 57, none, false, .not (.t 56)⟩,
  ⟨some 52, none, false, .mv (.t 57)⟩] (some [0, 1, 2, 3, 4, 15, 46, 47, 48, 52])
def ir20_r12 : IC := .reg [⟨some 10, none, false, .mv (.k (.slice none 0 0))⟩,
  ⟨some 11, none, false, .mv (.k (.slice none 0 0))⟩,
  ⟨some 12, none, false, .mv (.k (.int .i64 3))⟩] (some [10, 11, 12])
def ir20_12 : IC := .seq ir20_r12 .ret
def ir20_r13 : IC := .reg [⟨some 59, none, false, .fad 1 (.t 15)⟩,
  ⟨some 60, none, false, .ldc (.t 59)⟩,
  ⟨some 61, none, false, .mv (.t 1)⟩,
  ⟨some 62, none, false, .ar .sub (.t 61) (.k (.int .i64 1))⟩,
  ⟨some 63, none, false, .call (.f 42) [(.t 60), (.k (.int .i64 (-1))), (.t 62)]⟩,
  ⟨some 64, none, false, .not (.t 63)⟩,
  ⟨some 65, none, false, .mv (.t 64)⟩,
  ⟨some 66, some (65, false), false, .fad 2 (.t 15)⟩,
  ⟨some 67, some (65, false), false, .ldc (.t 66)⟩,
  ⟨some 68, some (65, false), false, .mv (.t 2)⟩,
  ⟨some 69, some (65, false), false, .ar .sub (.t 68) (.k (.int .i64 1))⟩,
  ⟨some 70, some (65, false), false, .call (.f 42) [(.t 67), (.k (.int .i64 0)), (.t 69)]⟩,
  ⟨some 71, some (65, false), false, .not (.t 70)⟩,
  ⟨some 72, none, false, .pick (.t 65) (.k (.bool true)) (.t 71)⟩,
  ⟨some 58, none, false, .mv (.t 72)⟩] (some [0, 1, 2, 3, 4, 15, 46, 47, 48, 58])
def ir20_r14 : IC := .reg [⟨some 10, none, false, .mv (.k (.slice none 0 0))⟩,
  ⟨some 11, none, false, .mv (.k (.slice none 0 0))⟩,
  ⟨some 12, none, false, .mv (.k (.int .i64 7))⟩] (some [10, 11, 12])
def ir20_13 : IC := .seq ir20_r14 .ret
def ir20_14 : IC := .cond (.t 58) ir20_13 .skip
def ir20_15 : IC := .seq ir20_r13 ir20_14
def ir20_16 : IC := .cond (.t 52) ir20_12 ir20_15
def ir20_17 : IC := .seq ir20_r11 ir20_16
def ir20_18 : IC := .block 3 ir20_17
def ir20_r15 : IC := .reg [⟨some 73, none, false, .fad 0 (.t 15)⟩,
  ⟨some 74, none, false, .ldc (.t 73)⟩,
  ⟨some 13, none, false, .mv (.t 74)⟩] (some [0, 1, 2, 3, 4, 13, 46, 47, 48])
def ir20_19 : IC := .seq ir20_18 ir20_r15
def ir20_20 : IC := .seq ir20_r10 ir20_19
def ir20_21 : IC := .block 2 ir20_20
def ir20_r16 : IC := .reg [⟨some 75, none, false, .ar .add (.t 48) (.k (.int .i64 1))⟩,
  ⟨some 48, none, false, .mv (.t 75)⟩] (some [0, 1, 2, 3, 4, 13, 46, 47, 48])
def ir20_22 : IC := .seq ir20_21 ir20_r16
def ir20_23 : IC := .seq ir20_11 ir20_22
def ir20_24 : IC := .seq ir20_r9 ir20_23
def ir20_25 : IC := .loop ir20_24
def ir20_26 : IC := .block 1 ir20_25
def ir20_27 : IC := .seq ir20_r8 ir20_26
def ir20_r17 : IC := .reg [⟨some 76, none, false, .bsl 1 1 [(.int .i64 0)] [(0, (.k (.int .i64 (-1))))]⟩,
  ⟨some 77, none, false, .mv (.t 1)⟩,
  ⟨some 78, none, false, .call (.f 58) [(.t 76), (.t 77)]⟩,
  ⟨some 79, none, false, .bsl 1 1 [(.int .i64 0)] [(0, (.k (.int .i64 (-1))))]⟩,
  ⟨some 80, none, false, .mv (.t 2)⟩,
  ⟨some 81, none, false, .call (.f 58) [(.t 79), (.t 80)]⟩,
  ⟨some 10, none, false, .mv (.t 78)⟩,
  ⟨some 11, none, false, .mv (.t 81)⟩] (some [0, 3, 4, 10, 11])
def ir20_r18 : IC := .reg [⟨some 83, none, false, .mv (.t 0)⟩,
  ⟨some 84, none, false, .mv (.t 4)⟩,
  ⟨some 85, none, false, .call (.f 59) [(.t 83), (.t 84), (.f 60)]⟩,
  ⟨some 82, none, false, .mv (.t 85)⟩,
  ⟨some 86, none, false, .ext (.t 82) 0⟩,
  ⟨some 87, none, false, .ext (.t 82) 1⟩,
  ⟨some 16, none, false, .mv (.t 86)⟩,
  ⟨some 17, none, false, .mv (.t 87)⟩] (some [0, 3, 4, 10, 11, 16])
def ir20_r19 : IC := .reg [⟨some 88, none, false, .mv (.t 11)⟩,
  ⟨some 89, none, false, .mv (.t 3)⟩,
  ⟨some 90, none, false, .mv (.t 4)⟩,
  ⟨some 91, none, false, .iad 1 (.t 88) (.t 89)⟩,
  ⟨none, none, false, .st 1 (.t 91) (.t 90)⟩] (some [0, 10, 11, 16])
def ir20_r20 : IC := .reg [⟨some 92, none, false, .mv (.t 0)⟩,
  ⟨some 93, none, false, .mv (.t 16)⟩,
  ⟨some 94, none, false, .gen (.slice 41 (.tmp 92) (some (.tmp 93)) none none)⟩,
  ⟨some 95, none, false, .len (.t 94)⟩,
  ⟨some 96, none, false, .mv (.k (.int .i64 0))⟩] (some [10, 11, 94, 95, 96])
def ir20_r21 : IC := .reg [⟨some 97, none, false, .cmp .lss (.t 96) (.t 95)⟩] (some [10, 11, 94, 95, 96, 97])
def ir20_28 : IC := .cond (.t 97) .skip (.exit 4)
def ir20_r22 : IC := .reg [⟨some 98, none, false, .iad 3 (.t 94) (.t 96)⟩,
  ⟨some 99, none, false, .lda 3 (.t 98)⟩,
  ⟨some 19, none, false, .alloc [(.int .i64 0), (.int .i64 0), (.int .i64 0)]⟩,
  ⟨none, none, false, .st 3 (.t 19) (.t 99)⟩] (some [10, 11, 19, 94, 95, 96])
def ir20_r23 : IC := .reg [⟨some 100, none, false, .mv (.t 11)⟩,
  ⟨some 101, none, false, .fad 2 (.t 19)⟩,
  ⟨some 102, none, false, .ldc (.t 101)⟩,
  ⟨some 103, none, false, .iad 1 (.t 100) (.t 102)⟩,
  ⟨some 20, none, false, .mv (.t 103)⟩] (some [10, 11, 19, 20, 94, 95, 96])
def ir20_r24 : IC := .reg [⟨some 104, none, false, .fad 1 (.t 19)⟩,
  ⟨some 105, none, false, .ldc (.t 104)⟩,
  ⟨some 106, none, false, .cmp .lss (.t 105) (.k (.int .i64 0))⟩] (some [10, 11, 19, 20, 94, 95, 96, 106])
def ir20_r25 : IC := .reg [⟨some 107, none, false, .mv (.t 20)⟩,
  ⟨some 108, none, false, .nilck (.t 107)⟩,
  ⟨none, none, false, .st 1 (.t 108) (.k (.int .i64 (-1)))⟩] (some [10, 11, 94, 95, 96])
def ir20_29 : IC := .seq ir20_r25 (.exit 5)
def ir20_30 : IC := .cond (.t 106) ir20_29 .skip
def ir20_31 : IC := .seq ir20_r24 ir20_30
def ir20_r26 : IC := .reg [⟨some 109, none, false, .mv (.t 10)⟩,
  ⟨some 110, none, false, .fad 1 (.t 19)⟩,
  ⟨some 111, none, false, .ldc (.t 110)⟩,
  ⟨some 112, none, false, .iad 1 (.t 109) (.t 111)⟩,
  ⟨some 21, none, false, .mv (.t 112)⟩] (some [10, 11, 19, 20, 21, 94, 95, 96])
def ir20_r27 : IC := .draw [(⟨some 113, none, false, .mv (.t 21)⟩, false, 0, 0),
  (⟨some 114, none, false, .nilck (.t 113)⟩, false, 1, 0),
  (⟨some 115, none, false, .ldc (.t 114)⟩, false, 3, 1),
  (⟨some 116, none, false, .cmp .eql (.t 115) (.k (.int .i64 (-1)))⟩, false, 7, 0),
  (⟨some 117, none, false, .mv (.t 20)⟩, false, 0, 0),
  (⟨some 118, none, false, .nilck (.t 117)⟩, false, 16, 0),
  (⟨some 119, none, false, .ldc (.t 118)⟩, false, 48, 4),
  (⟨some 120, none, false, .cmp .eql (.t 119) (.k (.int .i64 (-1)))⟩, false, 112, 0),
  (⟨some 121, none, false, .cmpb true (.t 116) (.t 120)⟩, false, 255, 0)] (some [10, 11, 19, 20, 21, 94, 95, 96, 121])
def ir20_r28 : IC := .reg [⟨some 122, none, false, .mv (.t 21)⟩,
  ⟨some 123, none, false, .nilck (.t 122)⟩,
  ⟨some 124, none, false, .ldc (.t 123)⟩,
  ⟨some 125, none, false, .cmp .eql (.t 124) (.k (.int .i64 (-1)))⟩] (some [10, 11, 19, 20, 21, 94, 95, 96, 125])
def ir20_r29 : IC := .reg [⟨some 126, none, false, .mv (.t 21)⟩,
  ⟨some 127, none, false, .fad 0 (.t 19)⟩,
  ⟨some 128, none, false, .ldc (.t 127)⟩,
  ⟨some 129, none, false, .nilck (.t 126)⟩,
  ⟨none, none, false, .st 1 (.t 129) (.t 128)⟩] (some [10, 11, 94, 95, 96])
def ir20_r30 : IC := .reg [⟨some 130, none, false, .mv (.t 20)⟩,
  ⟨some 131, none, false, .fad 0 (.t 19)⟩,
  ⟨some 132, none, false, .ldc (.t 131)⟩,
  ⟨some 133, none, false, .nilck (.t 130)⟩,
  ⟨none, none, false, .st 1 (.t 133) (.t 132)⟩] (some [10, 11, 94, 95, 96])
def ir20_32 : IC := .cond (.t 125) ir20_r29 ir20_r30
def ir20_33 : IC := .seq ir20_r28 ir20_32
def ir20_34 : IC := .cond (.t 121) ir20_33 .skip
def ir20_35 : IC := .seq ir20_r27 ir20_34
def ir20_36 : IC := .seq ir20_r26 ir20_35
def ir20_37 : IC := .seq ir20_31 ir20_36
def ir20_38 : IC := .seq ir20_r23 ir20_37
def ir20_39 : IC := .seq ir20_r22 ir20_38
def ir20_40 : IC := .block 5 ir20_39
def ir20_r31 : IC := .reg [⟨some 134, none, false, .ar .add (.t 96) (.k (.int .i64 1))⟩,
  ⟨some 96, none, false, .mv (.t 134)⟩] (some [10, 11, 94, 95, 96])
def ir20_41 : IC := .seq ir20_40 ir20_r31
def ir20_42 : IC := .seq ir20_28 ir20_41
def ir20_43 : IC := .seq ir20_r21 ir20_42
def ir20_44 : IC := .loop ir20_43
def ir20_45 : IC := .block 4 ir20_44
def ir20_46 : IC := .seq ir20_r20 ir20_45
def ir20_r32 : IC := .reg [⟨some 135, none, false, .mv (.t 10)⟩,
  ⟨some 136, none, false, .mv (.t 11)⟩,
  ⟨some 10, none, false, .mv (.t 135)⟩,
  ⟨some 11, none, false, .mv (.t 136)⟩,
  ⟨some 12, none, false, .mv (.k (.int .i64 0))⟩] (some [10, 11, 12])
def ir20_47 : IC := .seq ir20_r32 .ret
def ir20_48 : IC := .seq ir20_46 ir20_47
def ir20_49 : IC := .seq ir20_r19 ir20_48
def ir20_50 : IC := .seq ir20_r18 ir20_49
def ir20_51 : IC := .seq ir20_r17 ir20_50
def ir20_52 : IC := .seq ir20_27 ir20_51
def ir20_53 : IC := .seq ir20_r7 ir20_52
def ir20_54 : IC := .seq ir20_10 ir20_53
def ir20_55 : IC := .seq ir20_r0 ir20_54
def ir20 : IC := ir20_55
theorem fn20 : FnIs Try.prog 20 ir20 137 [.tmp 10, .tmp 11, .tmp 12] := ⟨Try.f20, Try.f20.body.getD .skip, Try.func20, by kernel_rfl, by kernel_rfl, by kernel_rfl, by kernel_rfl⟩
theorem taint_c (n c : Nat) (l : List Tc) (lots tools bad since : Int) (hl : l.length = n) (hb : n ≤ 1000000) (hc : c = openB ∨ n = 0 ∧ c = 0) :
    Fc Try.prog 20 [.slice (some ⟨1, 0, none⟩) n c, .int .i64 lots, .int .i64 tools, .int .i64 bad, .int .i64 since] (Hp 2 [none, some (.cells ⟨rows eC l, 0, false⟩)]) (tkV lots.toNat tools.toNat (tcE l lots tools bad since)) ((Hp 2 [none, some (.cells ⟨rows eC l, 0, false⟩)]).news (tkO (tnG l lots.toNat tools.toNat bad.toNat since) (tcE l lots tools bad since))) := by
  refine Fc.introR fn20 (by simp) rfl rfl ?_; simp only [argF]
  refine ITri.seq ?_
  refine ITri.reg pokT ?_; simp -implicitDefEqProofs (disch := first | decide | exact of_eq_true (eq_true rfl) | omega | assumption) only [ ↓vcD, vcE, evs, evP, evB, intsOf, fillC, Value.cells, pt, List.append_nil, List.nil_append, List.cons_append, List.length_cons, List.length_nil, List.filter_nil, List.map_nil, ↓List.getElem?_cons_zero, ↓List.getElem?_cons_succ, List.getElem?_cons_zero, List.getElem?_cons_succ, List.set_cons_zero, List.set_cons_succ, Option.join_some, Option.join_none, Option.map_some, List.all_cons, List.all_nil, Value.oneCell', reduceIte, reduceCtorEq, Nat.reduceEqDiff, Nat.reduceAdd, Nat.reduceMul, Nat.reduceLT, Nat.reduceBEq, Nat.reduceLeDiff, Nat.reduceSub, List.size_toArray] -- r0
  refine ITri.seq ?_
  refine ITri.block ?_ -- 0
  refine ITri.seq ?_
  refine ITri.reg pokT ?_; simp -implicitDefEqProofs (disch := first | decide | exact of_eq_true (eq_true rfl) | omega | assumption) only [ ↓vcD, vcE, evs, evP, evB, intsOf, fillC, Value.cells, pt, List.append_nil, List.nil_append, List.cons_append, List.length_cons, List.length_nil, List.filter_nil, List.map_nil, ↓List.getElem?_cons_zero, ↓List.getElem?_cons_succ, List.getElem?_cons_zero, List.getElem?_cons_succ, List.set_cons_zero, List.set_cons_succ, Option.join_some, Option.join_none, Option.map_some, List.all_cons, List.all_nil, Value.oneCell', reduceIte, reduceCtorEq, Nat.reduceEqDiff, Nat.reduceAdd, Nat.reduceMul, Nat.reduceLT, Nat.reduceBEq, Nat.reduceLeDiff, Nat.reduceSub, List.size_toArray] -- r1
  refine ITri.condD (by rfl) (fun h1 => ?_) (fun h1 => ?_) -- %22
  · have e0 : tcE l lots tools bad since = 5 := if_pos (by omega)
    rw [e0]
    refine ITri.seq ?_
    refine ITri.reg pokT ?_; simp -implicitDefEqProofs (disch := first | decide | exact of_eq_true (eq_true rfl) | omega | assumption) only [ ↓vcD, vcE, evs, evP, evB, intsOf, fillC, Value.cells, pt, List.append_nil, List.nil_append, List.cons_append, List.length_cons, List.length_nil, List.filter_nil, List.map_nil, ↓List.getElem?_cons_zero, ↓List.getElem?_cons_succ, List.getElem?_cons_zero, List.getElem?_cons_succ, List.set_cons_zero, List.set_cons_succ, Option.join_some, Option.join_none, Option.map_some, List.all_cons, List.all_nil, Value.oneCell', reduceIte, reduceCtorEq, Nat.reduceEqDiff, Nat.reduceAdd, Nat.reduceMul, Nat.reduceLT, Nat.reduceBEq, Nat.reduceLeDiff, Nat.reduceSub, List.size_toArray] -- r2
    refine ITri.ret ?_; exact EndR.plain (vs := [.slice none 0 0, .slice none 0 0, .int .i64 5]) (by simp) (by rfl) (by rfl) (by rfl)
  have f1 : tcE l lots tools bad since = _ := if_neg (show ¬ 500 < l.length by omega)
  refine ITri.seq ?_
  refine ITri.one (P := Try.prog) [(0, .slice (some ⟨1, 0, none⟩) n c), (1, .int .i64 lots), (2, .int .i64 tools), (3, .int .i64 bad), (4, .int .i64 since), (26, .bool (!(inT lots 0 100 && inT tools 0 100 && inT since 0 100000000)))] ?_ ?_
  · refine ITri.reg pokT ?_; simp -implicitDefEqProofs (disch := first | decide | exact of_eq_true (eq_true rfl) | omega | assumption) only [ ↓vcD, vcE, evs, evP, evB, intsOf, fillC, Value.cells, pt, List.append_nil, List.nil_append, List.cons_append, List.length_cons, List.length_nil, List.filter_nil, List.map_nil, ↓List.getElem?_cons_zero, ↓List.getElem?_cons_succ, List.getElem?_cons_zero, List.getElem?_cons_succ, List.set_cons_zero, List.set_cons_succ, Option.join_some, Option.join_none, Option.map_some, List.all_cons, List.all_nil, Value.oneCell', reduceIte, reduceCtorEq, Nat.reduceEqDiff, Nat.reduceAdd, Nat.reduceMul, Nat.reduceLT, Nat.reduceBEq, Nat.reduceLeDiff, Nat.reduceSub, List.size_toArray] -- r3
    refine ⟨_, _, in_f _ _ _ (sees0 rfl (of_decide_eq_true rfl)), ?_⟩
    cases g1 : inT lots 0 100 with
    | false => simp -implicitDefEqProofs (disch := first | decide | exact of_eq_true (eq_true rfl) | omega | assumption) only [g1, Bool.false_and, Bool.not_false,  ↓vcD, vcE, evs, evP, evB, intsOf, fillC, Value.cells, pt, List.append_nil, List.nil_append, List.cons_append, List.length_cons, List.length_nil, List.filter_nil, List.map_nil, ↓List.getElem?_cons_zero, ↓List.getElem?_cons_succ, List.getElem?_cons_zero, List.getElem?_cons_succ, List.set_cons_zero, List.set_cons_succ, Option.join_some, Option.join_none, Option.map_some, List.all_cons, List.all_nil, Value.oneCell', reduceIte, reduceCtorEq, Nat.reduceEqDiff, Nat.reduceAdd, Nat.reduceMul, Nat.reduceLT, Nat.reduceBEq, Nat.reduceLeDiff, Nat.reduceSub, List.size_toArray]
    | true =>
    simp -implicitDefEqProofs (disch := first | decide | exact of_eq_true (eq_true rfl) | omega | assumption) only [g1,  ↓vcD, vcE, evs, evP, evB, intsOf, fillC, Value.cells, pt, List.append_nil, List.nil_append, List.cons_append, List.length_cons, List.length_nil, List.filter_nil, List.map_nil, ↓List.getElem?_cons_zero, ↓List.getElem?_cons_succ, List.getElem?_cons_zero, List.getElem?_cons_succ, List.set_cons_zero, List.set_cons_succ, Option.join_some, Option.join_none, Option.map_some, List.all_cons, List.all_nil, Value.oneCell', reduceIte, reduceCtorEq, Nat.reduceEqDiff, Nat.reduceAdd, Nat.reduceMul, Nat.reduceLT, Nat.reduceBEq, Nat.reduceLeDiff, Nat.reduceSub, List.size_toArray]
    refine ⟨_, _, in_f _ _ _ (sees0 rfl (of_decide_eq_true rfl)), ?_⟩
    cases g2 : inT tools 0 100 with
    | false => simp -implicitDefEqProofs (disch := first | decide | exact of_eq_true (eq_true rfl) | omega | assumption) only [g2, Bool.false_and, Bool.true_and, Bool.not_false,  ↓vcD, vcE, evs, evP, evB, intsOf, fillC, Value.cells, pt, List.append_nil, List.nil_append, List.cons_append, List.length_cons, List.length_nil, List.filter_nil, List.map_nil, ↓List.getElem?_cons_zero, ↓List.getElem?_cons_succ, List.getElem?_cons_zero, List.getElem?_cons_succ, List.set_cons_zero, List.set_cons_succ, Option.join_some, Option.join_none, Option.map_some, List.all_cons, List.all_nil, Value.oneCell', reduceIte, reduceCtorEq, Nat.reduceEqDiff, Nat.reduceAdd, Nat.reduceMul, Nat.reduceLT, Nat.reduceBEq, Nat.reduceLeDiff, Nat.reduceSub, List.size_toArray]
    | true =>
    simp -implicitDefEqProofs (disch := first | decide | exact of_eq_true (eq_true rfl) | omega | assumption) only [g2,  ↓vcD, vcE, evs, evP, evB, intsOf, fillC, Value.cells, pt, List.append_nil, List.nil_append, List.cons_append, List.length_cons, List.length_nil, List.filter_nil, List.map_nil, ↓List.getElem?_cons_zero, ↓List.getElem?_cons_succ, List.getElem?_cons_zero, List.getElem?_cons_succ, List.set_cons_zero, List.set_cons_succ, Option.join_some, Option.join_none, Option.map_some, List.all_cons, List.all_nil, Value.oneCell', reduceIte, reduceCtorEq, Nat.reduceEqDiff, Nat.reduceAdd, Nat.reduceMul, Nat.reduceLT, Nat.reduceBEq, Nat.reduceLeDiff, Nat.reduceSub, List.size_toArray]
    refine ⟨_, _, in_f _ _ _ (sees0 rfl (of_decide_eq_true rfl)), ?_⟩
    simp -implicitDefEqProofs (disch := first | decide | exact of_eq_true (eq_true rfl) | omega | assumption) only [g2, Bool.true_and,  ↓vcD, vcE, evs, evP, evB, intsOf, fillC, Value.cells, pt, List.append_nil, List.nil_append, List.cons_append, List.length_cons, List.length_nil, List.filter_nil, List.map_nil, ↓List.getElem?_cons_zero, ↓List.getElem?_cons_succ, List.getElem?_cons_zero, List.getElem?_cons_succ, List.set_cons_zero, List.set_cons_succ, Option.join_some, Option.join_none, Option.map_some, List.all_cons, List.all_nil, Value.oneCell', reduceIte, reduceCtorEq, Nat.reduceEqDiff, Nat.reduceAdd, Nat.reduceMul, Nat.reduceLT, Nat.reduceBEq, Nat.reduceLeDiff, Nat.reduceSub, List.size_toArray]
  cases g0 : (inT lots 0 100 && inT tools 0 100 && inT since 0 100000000) with
  | false =>
    have e0 : tcE l lots tools bad since = 3 := by
      rw [f1, if_pos]
      simp only [Bool.and_eq_false_iff] at g0
      rcases g0 with (g | g) | g
      · exact .inl g
      · exact .inr (.inl g)
      · exact .inr (.inr g)
    rw [e0]
    refine ITri.cond (v := true) rfl (fun _ => ?_) (fun h => by cases h)
    refine ITri.seq ?_
    refine ITri.reg pokT ?_; simp -implicitDefEqProofs (disch := first | decide | exact of_eq_true (eq_true rfl) | omega | assumption) only [ ↓vcD, vcE, evs, evP, evB, intsOf, fillC, Value.cells, pt, List.append_nil, List.nil_append, List.cons_append, List.length_cons, List.length_nil, List.filter_nil, List.map_nil, ↓List.getElem?_cons_zero, ↓List.getElem?_cons_succ, List.getElem?_cons_zero, List.getElem?_cons_succ, List.set_cons_zero, List.set_cons_succ, Option.join_some, Option.join_none, Option.map_some, List.all_cons, List.all_nil, Value.oneCell', reduceIte, reduceCtorEq, Nat.reduceEqDiff, Nat.reduceAdd, Nat.reduceMul, Nat.reduceLT, Nat.reduceBEq, Nat.reduceLeDiff, Nat.reduceSub, List.size_toArray] -- r4
    refine ITri.ret ?_; exact EndR.plain (vs := [.slice none 0 0, .slice none 0 0, .int .i64 3]) (by simp) (by rfl) (by rfl) (by rfl)
  | true =>
  simp only [Bool.and_eq_true] at g0
  rw [if_neg (by rw [g0.1.1, g0.1.2, g0.2]; simp)] at f1
  have b1 := inT_ok g0.1.1
  have b2 := inT_ok g0.1.2
  refine ITri.cond (v := false) rfl (fun h => by cases h) (fun _ => ?_)
  refine ITri.seq ?_
  refine ITri.reg pokT ?_; simp -implicitDefEqProofs (disch := first | decide | exact of_eq_true (eq_true rfl) | omega | assumption) only [ ↓vcD, vcE, evs, evP, evB, intsOf, fillC, Value.cells, pt, List.append_nil, List.nil_append, List.cons_append, List.length_cons, List.length_nil, List.filter_nil, List.map_nil, ↓List.getElem?_cons_zero, ↓List.getElem?_cons_succ, List.getElem?_cons_zero, List.getElem?_cons_succ, List.set_cons_zero, List.set_cons_succ, Option.join_some, Option.join_none, Option.map_some, List.all_cons, List.all_nil, Value.oneCell', reduceIte, reduceCtorEq, Nat.reduceEqDiff, Nat.reduceAdd, Nat.reduceMul, Nat.reduceLT, Nat.reduceBEq, Nat.reduceLeDiff, Nat.reduceSub, List.size_toArray] -- r5
  refine ⟨_, _, in_f _ _ _ (sees0 rfl (of_decide_eq_true rfl)), ?_⟩
  cases g3 : inT bad 0 (tools - 1) with
  | false =>
    have e0 : tcE l lots tools bad since = 7 := by rw [f1, if_pos g3]
    rw [e0]
    try simp -implicitDefEqProofs (disch := first | decide | exact of_eq_true (eq_true rfl) | omega | assumption) only [ ↓vcD, vcE, evs, evP, evB, intsOf, fillC, Value.cells, pt, List.append_nil, List.nil_append, List.cons_append, List.length_cons, List.length_nil, List.filter_nil, List.map_nil, ↓List.getElem?_cons_zero, ↓List.getElem?_cons_succ, List.getElem?_cons_zero, List.getElem?_cons_succ, List.set_cons_zero, List.set_cons_succ, Option.join_some, Option.join_none, Option.map_some, List.all_cons, List.all_nil, Value.oneCell', reduceIte, reduceCtorEq, Nat.reduceEqDiff, Nat.reduceAdd, Nat.reduceMul, Nat.reduceLT, Nat.reduceBEq, Nat.reduceLeDiff, Nat.reduceSub, List.size_toArray]
    refine ITri.cond (v := true) rfl (fun _ => ?_) (fun h => by cases h)
    refine ITri.seq ?_
    refine ITri.reg pokT ?_; simp -implicitDefEqProofs (disch := first | decide | exact of_eq_true (eq_true rfl) | omega | assumption) only [ ↓vcD, vcE, evs, evP, evB, intsOf, fillC, Value.cells, pt, List.append_nil, List.nil_append, List.cons_append, List.length_cons, List.length_nil, List.filter_nil, List.map_nil, ↓List.getElem?_cons_zero, ↓List.getElem?_cons_succ, List.getElem?_cons_zero, List.getElem?_cons_succ, List.set_cons_zero, List.set_cons_succ, Option.join_some, Option.join_none, Option.map_some, List.all_cons, List.all_nil, Value.oneCell', reduceIte, reduceCtorEq, Nat.reduceEqDiff, Nat.reduceAdd, Nat.reduceMul, Nat.reduceLT, Nat.reduceBEq, Nat.reduceLeDiff, Nat.reduceSub, List.size_toArray] -- r6
    refine ITri.ret ?_; exact EndR.plain (vs := [.slice none 0 0, .slice none 0 0, .int .i64 7]) (by simp) (by rfl) (by rfl) (by rfl)
  | true =>
  rw [if_neg (by rw [g3]; simp)] at f1
  try simp -implicitDefEqProofs (disch := first | decide | exact of_eq_true (eq_true rfl) | omega | assumption) only [ ↓vcD, vcE, evs, evP, evB, intsOf, fillC, Value.cells, pt, List.append_nil, List.nil_append, List.cons_append, List.length_cons, List.length_nil, List.filter_nil, List.map_nil, ↓List.getElem?_cons_zero, ↓List.getElem?_cons_succ, List.getElem?_cons_zero, List.getElem?_cons_succ, List.set_cons_zero, List.set_cons_succ, Option.join_some, Option.join_none, Option.map_some, List.all_cons, List.all_nil, Value.oneCell', reduceIte, reduceCtorEq, Nat.reduceEqDiff, Nat.reduceAdd, Nat.reduceMul, Nat.reduceLT, Nat.reduceBEq, Nat.reduceLeDiff, Nat.reduceSub, List.size_toArray]
  refine ITri.cond (v := false) rfl (fun h => by cases h) (fun _ => ?_); refine ITri.skip ?_; simp only [SeqQ_normal, BlkQ_normal]
  refine ITri.seq ?_
  refine ITri.reg pokT ?_; simp -implicitDefEqProofs (disch := first | decide | exact of_eq_true (eq_true rfl) | omega | assumption) only [ ↓vcD, vcE, evs, evP, evB, intsOf, fillC, Value.cells, pt, List.append_nil, List.nil_append, List.cons_append, List.length_cons, List.length_nil, List.filter_nil, List.map_nil, ↓List.getElem?_cons_zero, ↓List.getElem?_cons_succ, List.getElem?_cons_zero, List.getElem?_cons_succ, List.set_cons_zero, List.set_cons_succ, Option.join_some, Option.join_none, Option.map_some, List.all_cons, List.all_nil, Value.oneCell', reduceIte, reduceCtorEq, Nat.reduceEqDiff, Nat.reduceAdd, Nat.reduceMul, Nat.reduceLT, Nat.reduceBEq, Nat.reduceLeDiff, Nat.reduceSub, List.size_toArray] -- r7
  refine ITri.seq ?_
  refine ITri.seq ?_
  refine ITri.reg pokT ?_; simp -implicitDefEqProofs (disch := first | decide | exact of_eq_true (eq_true rfl) | omega | assumption) only [ ↓vcD, vcE, evs, evP, evB, intsOf, fillC, Value.cells, pt, List.append_nil, List.nil_append, List.cons_append, List.length_cons, List.length_nil, List.filter_nil, List.map_nil, ↓List.getElem?_cons_zero, ↓List.getElem?_cons_succ, List.getElem?_cons_zero, List.getElem?_cons_succ, List.set_cons_zero, List.set_cons_succ, Option.join_some, Option.join_none, Option.map_some, List.all_cons, List.all_nil, Value.oneCell', reduceIte, reduceCtorEq, Nat.reduceEqDiff, Nat.reduceAdd, Nat.reduceMul, Nat.reduceLT, Nat.reduceBEq, Nat.reduceLeDiff, Nat.reduceSub, List.size_toArray] -- r8
  refine ITri.block ?_ -- 1
  refine ITri.loop (fun p : Nat × Int => [(0, .slice (some ⟨1, 0, none⟩) n c), (1, .int .i64 lots), (2, .int .i64 tools), (3, .int .i64 bad), (4, .int .i64 since), (13, .int .i64 p.2), (46, .slice (some ⟨1, 0, none⟩) n c), (47, .int .i64 n), (48, .int .i64 p.1)]) (fun _ => []) (fun p => Hp 2 [none, some (.cells ⟨rows eC l, 0, false⟩)]) (fun p => p.1 ≤ n ∧ tcE l lots tools bad since = tcS lots tools (l.drop p.1) p.2) (fun p => n - p.1) (0, 0) ⟨Nat.zero_le _, f1⟩ (Wk.sub ⟨rfl, rfl, rfl, rfl, rfl, rfl, rfl, rfl, rfl, trivial⟩) fun p hp => ?_
  obtain ⟨k, last⟩ := p
  obtain ⟨hk, hS⟩ := hp
  simp only at hk hS
  refine ITri.seq ?_
  refine ITri.reg pokT ?_; simp -implicitDefEqProofs (disch := first | decide | exact of_eq_true (eq_true rfl) | omega | assumption) only [ ↓vcD, vcE, evs, evP, evB, intsOf, fillC, Value.cells, pt, List.append_nil, List.nil_append, List.cons_append, List.length_cons, List.length_nil, List.filter_nil, List.map_nil, ↓List.getElem?_cons_zero, ↓List.getElem?_cons_succ, List.getElem?_cons_zero, List.getElem?_cons_succ, List.set_cons_zero, List.set_cons_succ, Option.join_some, Option.join_none, Option.map_some, List.all_cons, List.all_nil, Value.oneCell', reduceIte, reduceCtorEq, Nat.reduceEqDiff, Nat.reduceAdd, Nat.reduceMul, Nat.reduceLT, Nat.reduceBEq, Nat.reduceLeDiff, Nat.reduceSub, List.size_toArray] -- r9
  refine ITri.seq ?_
  refine ITri.condD (by rfl) (fun h2 => ?_) (fun h2 => ?_) -- %49
  · have hkr : k < l.length := by omega
    obtain ⟨⟨at', lot, tool⟩, hab⟩ : ∃ r, nth l k = r := ⟨_, rfl⟩
    have htk : takeC (rows eC l) (k * 3) 3 = some [.int .i64 at', .int .i64 lot, .int .i64 tool] := by rw [rows_takeC (f := eC) hkr, hab]; rfl
    rw [drop_nth hkr, hab, tcS] at hS
    refine ITri.skip ?_; simp only [SeqQ_normal, BlkQ_normal]
    refine ITri.seq ?_
    refine ITri.block ?_ -- 2
    refine ITri.seq ?_
    refine ITri.reg pokT ?_; simp -implicitDefEqProofs (disch := first | decide | exact of_eq_true (eq_true rfl) | omega | assumption) only [htk,  ↓vcD, vcE, evs, evP, evB, intsOf, fillC, Value.cells, pt, List.append_nil, List.nil_append, List.cons_append, List.length_cons, List.length_nil, List.filter_nil, List.map_nil, ↓List.getElem?_cons_zero, ↓List.getElem?_cons_succ, List.getElem?_cons_zero, List.getElem?_cons_succ, List.set_cons_zero, List.set_cons_succ, Option.join_some, Option.join_none, Option.map_some, List.all_cons, List.all_nil, Value.oneCell', reduceIte, reduceCtorEq, Nat.reduceEqDiff, Nat.reduceAdd, Nat.reduceMul, Nat.reduceLT, Nat.reduceBEq, Nat.reduceLeDiff, Nat.reduceSub, List.size_toArray] -- r10
    refine ITri.seq ?_
    refine ITri.block ?_ -- 3
    refine ITri.seq ?_
    refine ITri.reg pokT ?_; simp -implicitDefEqProofs (disch := first | decide | exact of_eq_true (eq_true rfl) | omega | assumption) only [ ↓vcD, vcE, evs, evP, evB, intsOf, fillC, Value.cells, pt, List.append_nil, List.nil_append, List.cons_append, List.length_cons, List.length_nil, List.filter_nil, List.map_nil, ↓List.getElem?_cons_zero, ↓List.getElem?_cons_succ, List.getElem?_cons_zero, List.getElem?_cons_succ, List.set_cons_zero, List.set_cons_succ, Option.join_some, Option.join_none, Option.map_some, List.all_cons, List.all_nil, Value.oneCell', reduceIte, reduceCtorEq, Nat.reduceEqDiff, Nat.reduceAdd, Nat.reduceMul, Nat.reduceLT, Nat.reduceBEq, Nat.reduceLeDiff, Nat.reduceSub, List.size_toArray] -- r11
    refine ⟨_, _, in_f _ _ _ (sees0 rfl (of_decide_eq_true rfl)), ?_⟩
    cases g5 : inT at' last 100000000 with
    | false =>
      rw [if_pos g5] at hS
      rw [hS]
      try simp -implicitDefEqProofs (disch := first | decide | exact of_eq_true (eq_true rfl) | omega | assumption) only [ ↓vcD, vcE, evs, evP, evB, intsOf, fillC, Value.cells, pt, List.append_nil, List.nil_append, List.cons_append, List.length_cons, List.length_nil, List.filter_nil, List.map_nil, ↓List.getElem?_cons_zero, ↓List.getElem?_cons_succ, List.getElem?_cons_zero, List.getElem?_cons_succ, List.set_cons_zero, List.set_cons_succ, Option.join_some, Option.join_none, Option.map_some, List.all_cons, List.all_nil, Value.oneCell', reduceIte, reduceCtorEq, Nat.reduceEqDiff, Nat.reduceAdd, Nat.reduceMul, Nat.reduceLT, Nat.reduceBEq, Nat.reduceLeDiff, Nat.reduceSub, List.size_toArray]
      refine ITri.cond (v := true) rfl (fun _ => ?_) (fun h => by cases h)
      refine ITri.seq ?_
      refine ITri.reg pokT ?_; simp -implicitDefEqProofs (disch := first | decide | exact of_eq_true (eq_true rfl) | omega | assumption) only [ ↓vcD, vcE, evs, evP, evB, intsOf, fillC, Value.cells, pt, List.append_nil, List.nil_append, List.cons_append, List.length_cons, List.length_nil, List.filter_nil, List.map_nil, ↓List.getElem?_cons_zero, ↓List.getElem?_cons_succ, List.getElem?_cons_zero, List.getElem?_cons_succ, List.set_cons_zero, List.set_cons_succ, Option.join_some, Option.join_none, Option.map_some, List.all_cons, List.all_nil, Value.oneCell', reduceIte, reduceCtorEq, Nat.reduceEqDiff, Nat.reduceAdd, Nat.reduceMul, Nat.reduceLT, Nat.reduceBEq, Nat.reduceLeDiff, Nat.reduceSub, List.size_toArray] -- r12
      refine ITri.ret ?_; exact EndR.plain (vs := [.slice none 0 0, .slice none 0 0, .int .i64 3]) (by simp) (by rfl) (by rfl) (by rfl)
    | true =>
    rw [if_neg (by rw [g5]; simp)] at hS
    try simp -implicitDefEqProofs (disch := first | decide | exact of_eq_true (eq_true rfl) | omega | assumption) only [ ↓vcD, vcE, evs, evP, evB, intsOf, fillC, Value.cells, pt, List.append_nil, List.nil_append, List.cons_append, List.length_cons, List.length_nil, List.filter_nil, List.map_nil, ↓List.getElem?_cons_zero, ↓List.getElem?_cons_succ, List.getElem?_cons_zero, List.getElem?_cons_succ, List.set_cons_zero, List.set_cons_succ, Option.join_some, Option.join_none, Option.map_some, List.all_cons, List.all_nil, Value.oneCell', reduceIte, reduceCtorEq, Nat.reduceEqDiff, Nat.reduceAdd, Nat.reduceMul, Nat.reduceLT, Nat.reduceBEq, Nat.reduceLeDiff, Nat.reduceSub, List.size_toArray]
    refine ITri.cond (v := false) rfl (fun h => by cases h) (fun _ => ?_)
    refine ITri.seq ?_
    refine ITri.one (P := Try.prog) [(0, .slice (some ⟨1, 0, none⟩) n c), (1, .int .i64 lots), (2, .int .i64 tools), (3, .int .i64 bad), (4, .int .i64 since), (15, pt 2), (46, .slice (some ⟨1, 0, none⟩) n c), (47, .int .i64 n), (48, .int .i64 k), (58, .bool (!(inT lot (-1) (lots - 1) && inT tool 0 (tools - 1))))] ?_ ?_
    · refine ITri.reg pokT ?_; simp -implicitDefEqProofs (disch := first | decide | exact of_eq_true (eq_true rfl) | omega | assumption) only [ ↓vcD, vcE, evs, evP, evB, intsOf, fillC, Value.cells, pt, List.append_nil, List.nil_append, List.cons_append, List.length_cons, List.length_nil, List.filter_nil, List.map_nil, ↓List.getElem?_cons_zero, ↓List.getElem?_cons_succ, List.getElem?_cons_zero, List.getElem?_cons_succ, List.set_cons_zero, List.set_cons_succ, Option.join_some, Option.join_none, Option.map_some, List.all_cons, List.all_nil, Value.oneCell', reduceIte, reduceCtorEq, Nat.reduceEqDiff, Nat.reduceAdd, Nat.reduceMul, Nat.reduceLT, Nat.reduceBEq, Nat.reduceLeDiff, Nat.reduceSub, List.size_toArray] -- r13
      refine ⟨_, _, in_f _ _ _ (sees0 rfl (of_decide_eq_true rfl)), ?_⟩
      cases g6 : inT lot (-1) (lots - 1) with
      | false => simp -implicitDefEqProofs (disch := first | decide | exact of_eq_true (eq_true rfl) | omega | assumption) only [g6, Bool.false_and, Bool.not_false,  ↓vcD, vcE, evs, evP, evB, intsOf, fillC, Value.cells, pt, List.append_nil, List.nil_append, List.cons_append, List.length_cons, List.length_nil, List.filter_nil, List.map_nil, ↓List.getElem?_cons_zero, ↓List.getElem?_cons_succ, List.getElem?_cons_zero, List.getElem?_cons_succ, List.set_cons_zero, List.set_cons_succ, Option.join_some, Option.join_none, Option.map_some, List.all_cons, List.all_nil, Value.oneCell', reduceIte, reduceCtorEq, Nat.reduceEqDiff, Nat.reduceAdd, Nat.reduceMul, Nat.reduceLT, Nat.reduceBEq, Nat.reduceLeDiff, Nat.reduceSub, List.size_toArray]
      | true =>
      simp -implicitDefEqProofs (disch := first | decide | exact of_eq_true (eq_true rfl) | omega | assumption) only [g6,  ↓vcD, vcE, evs, evP, evB, intsOf, fillC, Value.cells, pt, List.append_nil, List.nil_append, List.cons_append, List.length_cons, List.length_nil, List.filter_nil, List.map_nil, ↓List.getElem?_cons_zero, ↓List.getElem?_cons_succ, List.getElem?_cons_zero, List.getElem?_cons_succ, List.set_cons_zero, List.set_cons_succ, Option.join_some, Option.join_none, Option.map_some, List.all_cons, List.all_nil, Value.oneCell', reduceIte, reduceCtorEq, Nat.reduceEqDiff, Nat.reduceAdd, Nat.reduceMul, Nat.reduceLT, Nat.reduceBEq, Nat.reduceLeDiff, Nat.reduceSub, List.size_toArray]
      refine ⟨_, _, in_f _ _ _ (sees0 rfl (of_decide_eq_true rfl)), ?_⟩
      simp -implicitDefEqProofs (disch := first | decide | exact of_eq_true (eq_true rfl) | omega | assumption) only [g6, Bool.true_and,  ↓vcD, vcE, evs, evP, evB, intsOf, fillC, Value.cells, pt, List.append_nil, List.nil_append, List.cons_append, List.length_cons, List.length_nil, List.filter_nil, List.map_nil, ↓List.getElem?_cons_zero, ↓List.getElem?_cons_succ, List.getElem?_cons_zero, List.getElem?_cons_succ, List.set_cons_zero, List.set_cons_succ, Option.join_some, Option.join_none, Option.map_some, List.all_cons, List.all_nil, Value.oneCell', reduceIte, reduceCtorEq, Nat.reduceEqDiff, Nat.reduceAdd, Nat.reduceMul, Nat.reduceLT, Nat.reduceBEq, Nat.reduceLeDiff, Nat.reduceSub, List.size_toArray]
    cases g7 : (inT lot (-1) (lots - 1) && inT tool 0 (tools - 1)) with
    | false =>
      rw [if_pos (by rw [Bool.and_eq_false_iff] at g7; exact g7)] at hS
      rw [hS]
      refine ITri.cond (v := true) rfl (fun _ => ?_) (fun h => by cases h)
      refine ITri.seq ?_
      refine ITri.reg pokT ?_; simp -implicitDefEqProofs (disch := first | decide | exact of_eq_true (eq_true rfl) | omega | assumption) only [ ↓vcD, vcE, evs, evP, evB, intsOf, fillC, Value.cells, pt, List.append_nil, List.nil_append, List.cons_append, List.length_cons, List.length_nil, List.filter_nil, List.map_nil, ↓List.getElem?_cons_zero, ↓List.getElem?_cons_succ, List.getElem?_cons_zero, List.getElem?_cons_succ, List.set_cons_zero, List.set_cons_succ, Option.join_some, Option.join_none, Option.map_some, List.all_cons, List.all_nil, Value.oneCell', reduceIte, reduceCtorEq, Nat.reduceEqDiff, Nat.reduceAdd, Nat.reduceMul, Nat.reduceLT, Nat.reduceBEq, Nat.reduceLeDiff, Nat.reduceSub, List.size_toArray] -- r14
      refine ITri.ret ?_; exact EndR.plain (vs := [.slice none 0 0, .slice none 0 0, .int .i64 7]) (by simp) (by rfl) (by rfl) (by rfl)
    | true =>
    rw [Bool.and_eq_true] at g7
    rw [if_neg (by rw [g7.1, g7.2]; simp)] at hS
    refine ITri.cond (v := false) rfl (fun h => by cases h) (fun _ => ?_); refine ITri.skip ?_; simp only [SeqQ_normal, BlkQ_normal]
    refine ITri.reg pokT ?_; simp -implicitDefEqProofs (disch := first | decide | exact of_eq_true (eq_true rfl) | omega | assumption) only [ ↓vcD, vcE, evs, evP, evB, intsOf, fillC, Value.cells, pt, List.append_nil, List.nil_append, List.cons_append, List.length_cons, List.length_nil, List.filter_nil, List.map_nil, ↓List.getElem?_cons_zero, ↓List.getElem?_cons_succ, List.getElem?_cons_zero, List.getElem?_cons_succ, List.set_cons_zero, List.set_cons_succ, Option.join_some, Option.join_none, Option.map_some, List.all_cons, List.all_nil, Value.oneCell', reduceIte, reduceCtorEq, Nat.reduceEqDiff, Nat.reduceAdd, Nat.reduceMul, Nat.reduceLT, Nat.reduceBEq, Nat.reduceLeDiff, Nat.reduceSub, List.size_toArray] -- r15
    refine ITri.reg pokT ?_; simp -implicitDefEqProofs (disch := first | decide | exact of_eq_true (eq_true rfl) | omega | assumption) only [ ↓vcD, vcE, evs, evP, evB, intsOf, fillC, Value.cells, pt, List.append_nil, List.nil_append, List.cons_append, List.length_cons, List.length_nil, List.filter_nil, List.map_nil, ↓List.getElem?_cons_zero, ↓List.getElem?_cons_succ, List.getElem?_cons_zero, List.getElem?_cons_succ, List.set_cons_zero, List.set_cons_succ, Option.join_some, Option.join_none, Option.map_some, List.all_cons, List.all_nil, Value.oneCell', reduceIte, reduceCtorEq, Nat.reduceEqDiff, Nat.reduceAdd, Nat.reduceMul, Nat.reduceLT, Nat.reduceBEq, Nat.reduceLeDiff, Nat.reduceSub, List.size_toArray] -- r16
    refine LoopQ.next (k + 1, at') ?_ ?_ (Wk.gc [0, 1] [] (of_decide_eq_true rfl) (of_decide_eq_true rfl) rfl rfl (of_decide_eq_true rfl) rfl rfl (fun _ h => by cases h) rfl (by simp -implicitDefEqProofs (disch := first | decide | exact of_eq_true (eq_true rfl) | omega | assumption) only [objOK, sgL, xiL, objAt, nilO, OM, mvL, mv, mvS, okS, okP, mvL_rows, okML, okM, okML_rows, List.getElem?_cons_zero, Option.getD_some, implies_true, imp_self, ne_eq, and_self, ↓vcD, vcE, evs, evP, evB, intsOf, fillC, Value.cells, pt, List.append_nil, List.nil_append, List.cons_append, List.length_cons, List.length_nil, List.filter_nil, List.map_nil, ↓List.getElem?_cons_zero, ↓List.getElem?_cons_succ, List.getElem?_cons_zero, List.getElem?_cons_succ, List.set_cons_zero, List.set_cons_succ, Option.join_some, Option.join_none, Option.map_some, List.all_cons, List.all_nil, Value.oneCell', reduceIte, reduceCtorEq, Nat.reduceEqDiff, Nat.reduceAdd, Nat.reduceMul, Nat.reduceLT, Nat.reduceBEq, Nat.reduceLeDiff, Nat.reduceSub, List.size_toArray]) (by simp -implicitDefEqProofs (disch := first | decide | exact of_eq_true (eq_true rfl) | omega | assumption) only [ valOK, sgL, xiL, mv, mvA, mvL, mvS, okS, okP, okM, okMA, okML, Option.getD_some, implies_true, and_self, Int.natCast_add, Int.cast_ofNat_Int, ↓vcD, vcE, evs, evP, evB, intsOf, fillC, Value.cells, pt, List.append_nil, List.nil_append, List.cons_append, List.length_cons, List.length_nil, List.filter_nil, List.map_nil, ↓List.getElem?_cons_zero, ↓List.getElem?_cons_succ, List.getElem?_cons_zero, List.getElem?_cons_succ, List.set_cons_zero, List.set_cons_succ, Option.join_some, Option.join_none, Option.map_some, List.all_cons, List.all_nil, Value.oneCell', reduceIte, reduceCtorEq, Nat.reduceEqDiff, Nat.reduceAdd, Nat.reduceMul, Nat.reduceLT, Nat.reduceBEq, Nat.reduceLeDiff, Nat.reduceSub, List.size_toArray]) (fun _ h => by cases h) ⟨rfl, fun _ h => by cases h⟩)
    · exact ⟨by show k + 1 ≤ n; omega, hS⟩
    · show n - (k + 1) < n - k
      omega
  refine ITri.exit ?_; try simp -implicitDefEqProofs (disch := first | decide | exact of_eq_true (eq_true rfl) | omega | assumption) only [ ↓vcD, vcE, evs, evP, evB, intsOf, fillC, Value.cells, pt, List.append_nil, List.nil_append, List.cons_append, List.length_cons, List.length_nil, List.filter_nil, List.map_nil, ↓List.getElem?_cons_zero, ↓List.getElem?_cons_succ, List.getElem?_cons_zero, List.getElem?_cons_succ, List.set_cons_zero, List.set_cons_succ, Option.join_some, Option.join_none, Option.map_some, List.all_cons, List.all_nil, Value.oneCell', reduceIte, reduceCtorEq, Nat.reduceEqDiff, Nat.reduceAdd, Nat.reduceMul, Nat.reduceLT, Nat.reduceBEq, Nat.reduceLeDiff, Nat.reduceSub, List.size_toArray]
  have hnk : k = l.length := by omega
  rw [hnk, List.drop_length, tcS] at hS
  obtain ⟨hl5, bl, bt, bs, bb, hix, hsr⟩ := tc_ok hS
  rw [hS]
  obtain ⟨p, rfl⟩ : ∃ p : Nat, lots = p := ⟨lots.toNat, by omega⟩
  obtain ⟨q, rfl⟩ : ∃ q : Nat, tools = q := ⟨tools.toNat, by omega⟩
  obtain ⟨r, rfl⟩ : ∃ r : Nat, bad = r := ⟨bad.toNat, by omega⟩
  simp only [Int.toNat_natCast]
  have hInB : ∀ x ∈ l, InB p q x := fun x hx => by have := hix x hx; exact ⟨this.1, by omega, this.2.2.2.1, by omega⟩
  obtain ⟨st, hs1, hs2, hs3⟩ := st_ex hsr since
  have hfin := tnK_G (p := p) (q := q) (bad := r) hs1 hs2 hs3
  refine ITri.seq ?_
  refine ITri.reg pokT ?_; simp -implicitDefEqProofs (disch := first | decide | exact of_eq_true (eq_true rfl) | omega | assumption) only [ ↓vcD, vcE, evs, evP, evB, intsOf, fillC, Value.cells, pt, List.append_nil, List.nil_append, List.cons_append, List.length_cons, List.length_nil, List.filter_nil, List.map_nil, ↓List.getElem?_cons_zero, ↓List.getElem?_cons_succ, List.getElem?_cons_zero, List.getElem?_cons_succ, List.set_cons_zero, List.set_cons_succ, Option.join_some, Option.join_none, Option.map_some, List.all_cons, List.all_nil, Value.oneCell', reduceIte, reduceCtorEq, Nat.reduceEqDiff, Nat.reduceAdd, Nat.reduceMul, Nat.reduceLT, Nat.reduceBEq, Nat.reduceLeDiff, Nat.reduceSub, List.size_toArray] -- r17
  refine ⟨_, _, rep_f (n := p) (by omega) (sees0 rfl (of_decide_eq_true rfl)) (Rd.hq rfl rfl), ?_⟩
  try simp -implicitDefEqProofs (disch := first | decide | exact of_eq_true (eq_true rfl) | omega | assumption) only [ ↓vcD, vcE, evs, evP, evB, intsOf, fillC, Value.cells, pt, List.append_nil, List.nil_append, List.cons_append, List.length_cons, List.length_nil, List.filter_nil, List.map_nil, ↓List.getElem?_cons_zero, ↓List.getElem?_cons_succ, List.getElem?_cons_zero, List.getElem?_cons_succ, List.set_cons_zero, List.set_cons_succ, Option.join_some, Option.join_none, Option.map_some, List.all_cons, List.all_nil, Value.oneCell', reduceIte, reduceCtorEq, Nat.reduceEqDiff, Nat.reduceAdd, Nat.reduceMul, Nat.reduceLT, Nat.reduceBEq, Nat.reduceLeDiff, Nat.reduceSub, List.size_toArray]
  refine ⟨_, _, rep_f (n := q) (by omega) (sees0 rfl (of_decide_eq_true rfl)) (Rd.hq rfl rfl), ?_⟩
  try simp -implicitDefEqProofs (disch := first | decide | exact of_eq_true (eq_true rfl) | omega | assumption) only [ ↓vcD, vcE, evs, evP, evB, intsOf, fillC, Value.cells, pt, List.append_nil, List.nil_append, List.cons_append, List.length_cons, List.length_nil, List.filter_nil, List.map_nil, ↓List.getElem?_cons_zero, ↓List.getElem?_cons_succ, List.getElem?_cons_zero, List.getElem?_cons_succ, List.set_cons_zero, List.set_cons_succ, Option.join_some, Option.join_none, Option.map_some, List.all_cons, List.all_nil, Value.oneCell', reduceIte, reduceCtorEq, Nat.reduceEqDiff, Nat.reduceAdd, Nat.reduceMul, Nat.reduceLT, Nat.reduceBEq, Nat.reduceLeDiff, Nat.reduceSub, List.size_toArray]
  refine ITri.seq ?_
  refine ITri.reg pokT ?_; simp -implicitDefEqProofs (disch := first | decide | exact of_eq_true (eq_true rfl) | omega | assumption) only [ ↓vcD, vcE, evs, evP, evB, intsOf, fillC, Value.cells, pt, List.append_nil, List.nil_append, List.cons_append, List.length_cons, List.length_nil, List.filter_nil, List.map_nil, ↓List.getElem?_cons_zero, ↓List.getElem?_cons_succ, List.getElem?_cons_zero, List.getElem?_cons_succ, List.set_cons_zero, List.set_cons_succ, Option.join_some, Option.join_none, Option.map_some, List.all_cons, List.all_nil, Value.oneCell', reduceIte, reduceCtorEq, Nat.reduceEqDiff, Nat.reduceAdd, Nat.reduceMul, Nat.reduceLT, Nat.reduceBEq, Nat.reduceLeDiff, Nat.reduceSub, List.size_toArray] -- r18
  refine ⟨_, _, find_f (n := n) (st := st) (l := l) since hl (by omega) bs (fun q hq => by have := hix _ (nth_mem (show q < l.length by omega)); exact ⟨this.1, this.2.1⟩) (by omega) hs2 (fun q h1 h2 => hs3 q h1 (by omega)) (sees0 rfl (of_decide_eq_true rfl)) (Rd.hq rfl rfl), ?_⟩
  try simp -implicitDefEqProofs (disch := first | decide | exact of_eq_true (eq_true rfl) | omega | assumption) only [ ↓vcD, vcE, evs, evP, evB, intsOf, fillC, Value.cells, pt, List.append_nil, List.nil_append, List.cons_append, List.length_cons, List.length_nil, List.filter_nil, List.map_nil, ↓List.getElem?_cons_zero, ↓List.getElem?_cons_succ, List.getElem?_cons_zero, List.getElem?_cons_succ, List.set_cons_zero, List.set_cons_succ, Option.join_some, Option.join_none, Option.map_some, List.all_cons, List.all_nil, Value.oneCell', reduceIte, reduceCtorEq, Nat.reduceEqDiff, Nat.reduceAdd, Nat.reduceMul, Nat.reduceLT, Nat.reduceBEq, Nat.reduceLeDiff, Nat.reduceSub, List.size_toArray]
  have hwr : writeAt (rows eN (List.replicate q (-1 : Int))) r [.int .i64 since] = rows eN ((List.replicate q (-1)).set r since) := wr_eN _ (by rw [List.length_replicate]; omega)
  have hlr : (rows eN (List.replicate q (-1 : Int))).length = q := by rw [len_eN, List.length_replicate]
  refine ITri.seq ?_
  refine ITri.reg pokT ?_; simp -implicitDefEqProofs (disch := first | decide | exact of_eq_true (eq_true rfl) | omega | assumption) only [hwr, hlr,  ↓vcD, vcE, evs, evP, evB, intsOf, fillC, Value.cells, pt, List.append_nil, List.nil_append, List.cons_append, List.length_cons, List.length_nil, List.filter_nil, List.map_nil, ↓List.getElem?_cons_zero, ↓List.getElem?_cons_succ, List.getElem?_cons_zero, List.getElem?_cons_succ, List.set_cons_zero, List.set_cons_succ, Option.join_some, Option.join_none, Option.map_some, List.all_cons, List.all_nil, Value.oneCell', reduceIte, reduceCtorEq, Nat.reduceEqDiff, Nat.reduceAdd, Nat.reduceMul, Nat.reduceLT, Nat.reduceBEq, Nat.reduceLeDiff, Nat.reduceSub, List.size_toArray] -- r19
  rw [← hfin]
  refine ITri.seq ?_
  refine ITri.cut (fun _ : Unit => [(10, .slice (some ⟨2, 0, none⟩) p openB), (11, .slice (some ⟨3, 0, none⟩) q openB)]) (fun _ => []) (fun _ => tkM l (tnK l p q r since st l.length).1 (tnK l p q r since st l.length).2) (fun _ => True) ?_ (fun _ _ => ?_)
  rotate_left
  · try simp -implicitDefEqProofs (disch := first | decide | exact of_eq_true (eq_true rfl) | omega | assumption) only [ ↓vcD, vcE, evs, evP, evB, intsOf, fillC, Value.cells, pt, List.append_nil, List.nil_append, List.cons_append, List.length_cons, List.length_nil, List.filter_nil, List.map_nil, ↓List.getElem?_cons_zero, ↓List.getElem?_cons_succ, List.getElem?_cons_zero, List.getElem?_cons_succ, List.set_cons_zero, List.set_cons_succ, Option.join_some, Option.join_none, Option.map_some, List.all_cons, List.all_nil, Value.oneCell', reduceIte, reduceCtorEq, Nat.reduceEqDiff, Nat.reduceAdd, Nat.reduceMul, Nat.reduceLT, Nat.reduceBEq, Nat.reduceLeDiff, Nat.reduceSub, List.size_toArray]
    refine ITri.seq ?_
    refine ITri.reg pokT ?_; simp -implicitDefEqProofs (disch := first | decide | exact of_eq_true (eq_true rfl) | omega | assumption) only [ ↓vcD, vcE, evs, evP, evB, intsOf, fillC, Value.cells, pt, List.append_nil, List.nil_append, List.cons_append, List.length_cons, List.length_nil, List.filter_nil, List.map_nil, ↓List.getElem?_cons_zero, ↓List.getElem?_cons_succ, List.getElem?_cons_zero, List.getElem?_cons_succ, List.set_cons_zero, List.set_cons_succ, Option.join_some, Option.join_none, Option.map_some, List.all_cons, List.all_nil, Value.oneCell', reduceIte, reduceCtorEq, Nat.reduceEqDiff, Nat.reduceAdd, Nat.reduceMul, Nat.reduceLT, Nat.reduceBEq, Nat.reduceLeDiff, Nat.reduceSub, List.size_toArray] -- r32
    refine ITri.ret ?_
    exact end_own3 (k := 2) (k2 := 3) (by decide) (by decide) (by decide) (rows_no (f := eN) _) (rows_no (f := eN) _) rfl rfl rfl
  refine ITri.seq ?_
  by_cases hst : st = n
  · have e1 : tnK l p q r since st l.length = (List.replicate p (-1), (List.replicate q (-1)).set r since) := by rw [hst, ← hl, tnK_st]
    rw [e1]
    by_cases hn0 : n = 0
    · obtain rfl : st = 0 := by omega
      rcases hc with rfl | ⟨_, rfl⟩
      rotate_left
      · subst hn0
        refine ITri.reg pokT ?_
        simp -implicitDefEqProofs (disch := first | decide | exact of_eq_true (eq_true rfl) | omega | assumption) only [ ↓vcD, vcE, evs, evP, evB, intsOf, fillC, Value.cells, pt, List.append_nil, List.nil_append, List.cons_append, List.length_cons, List.length_nil, List.filter_nil, List.map_nil, ↓List.getElem?_cons_zero, ↓List.getElem?_cons_succ, List.getElem?_cons_zero, List.getElem?_cons_succ, List.set_cons_zero, List.set_cons_succ, Option.join_some, Option.join_none, Option.map_some, List.all_cons, List.all_nil, Value.oneCell', reduceIte, reduceCtorEq, Nat.reduceEqDiff, Nat.reduceAdd, Nat.reduceMul, Nat.reduceLT, Nat.reduceBEq, Nat.reduceLeDiff, Nat.reduceSub, List.size_toArray]
        refine gen_from00 u_slT i_T rfl rfl (by omega) ?_
        try simp -implicitDefEqProofs (disch := first | decide | exact of_eq_true (eq_true rfl) | omega | assumption) only [ ↓vcD, vcE, evs, evP, evB, intsOf, fillC, Value.cells, pt, List.append_nil, List.nil_append, List.cons_append, List.length_cons, List.length_nil, List.filter_nil, List.map_nil, ↓List.getElem?_cons_zero, ↓List.getElem?_cons_succ, List.getElem?_cons_zero, List.getElem?_cons_succ, List.set_cons_zero, List.set_cons_succ, Option.join_some, Option.join_none, Option.map_some, List.all_cons, List.all_nil, Value.oneCell', reduceIte, reduceCtorEq, Nat.reduceEqDiff, Nat.reduceAdd, Nat.reduceMul, Nat.reduceLT, Nat.reduceBEq, Nat.reduceLeDiff, Nat.reduceSub, List.size_toArray]
        refine ITri.block ?_
        refine ITri.loop (fun _ : Unit => [(10, .slice (some ⟨2, 0, none⟩) p openB), (11, .slice (some ⟨3, 0, none⟩) q openB), (95, .int .i64 0), (96, .int .i64 0)]) (fun _ => []) (fun _ => tkM l (List.replicate p (-1)) ((List.replicate q (-1)).set r since)) (fun _ => True) (fun _ => 0) () trivial (Wk.gc [0, 1, 3, 5] [] (of_decide_eq_true rfl) (of_decide_eq_true rfl) rfl rfl (of_decide_eq_true rfl) rfl rfl (fun _ h => by cases h) rfl (by simp -implicitDefEqProofs (disch := first | decide | exact of_eq_true (eq_true rfl) | omega | assumption) only [objOK, sgL, xiL, objAt, nilO, OM, mvL, mv, mvS, okS, okP, mvL_rows, okML, okM, okML_rows, List.getElem?_cons_zero, Option.getD_some, implies_true, imp_self, ne_eq, and_self, ↓vcD, vcE, evs, evP, evB, intsOf, fillC, Value.cells, pt, List.append_nil, List.nil_append, List.cons_append, List.length_cons, List.length_nil, List.filter_nil, List.map_nil, ↓List.getElem?_cons_zero, ↓List.getElem?_cons_succ, List.getElem?_cons_zero, List.getElem?_cons_succ, List.set_cons_zero, List.set_cons_succ, Option.join_some, Option.join_none, Option.map_some, List.all_cons, List.all_nil, Value.oneCell', reduceIte, reduceCtorEq, Nat.reduceEqDiff, Nat.reduceAdd, Nat.reduceMul, Nat.reduceLT, Nat.reduceBEq, Nat.reduceLeDiff, Nat.reduceSub, List.size_toArray]) (by simp -implicitDefEqProofs (disch := first | decide | exact of_eq_true (eq_true rfl) | omega | assumption) only [ valOK, sgL, xiL, mv, mvA, mvL, mvS, okS, okP, okM, okMA, okML, Option.getD_some, implies_true, and_self, Int.natCast_add, Int.cast_ofNat_Int, ↓vcD, vcE, evs, evP, evB, intsOf, fillC, Value.cells, pt, List.append_nil, List.nil_append, List.cons_append, List.length_cons, List.length_nil, List.filter_nil, List.map_nil, ↓List.getElem?_cons_zero, ↓List.getElem?_cons_succ, List.getElem?_cons_zero, List.getElem?_cons_succ, List.set_cons_zero, List.set_cons_succ, Option.join_some, Option.join_none, Option.map_some, List.all_cons, List.all_nil, Value.oneCell', reduceIte, reduceCtorEq, Nat.reduceEqDiff, Nat.reduceAdd, Nat.reduceMul, Nat.reduceLT, Nat.reduceBEq, Nat.reduceLeDiff, Nat.reduceSub, List.size_toArray]) (fun _ h => by cases h) ⟨rfl, fun _ h => by cases h⟩) fun _ _ => ?_
        refine ITri.seq ?_
        refine ITri.reg pokT ?_; simp -implicitDefEqProofs (disch := first | decide | exact of_eq_true (eq_true rfl) | omega | assumption) only [ ↓vcD, vcE, evs, evP, evB, intsOf, fillC, Value.cells, pt, List.append_nil, List.nil_append, List.cons_append, List.length_cons, List.length_nil, List.filter_nil, List.map_nil, ↓List.getElem?_cons_zero, ↓List.getElem?_cons_succ, List.getElem?_cons_zero, List.getElem?_cons_succ, List.set_cons_zero, List.set_cons_succ, Option.join_some, Option.join_none, Option.map_some, List.all_cons, List.all_nil, Value.oneCell', reduceIte, reduceCtorEq, Nat.reduceEqDiff, Nat.reduceAdd, Nat.reduceMul, Nat.reduceLT, Nat.reduceBEq, Nat.reduceLeDiff, Nat.reduceSub, List.size_toArray] -- r21
        refine ITri.seq ?_
        refine ITri.cond (v := false) rfl (fun h => by cases h) (fun _ => ?_)
        refine ITri.exit ?_; try simp -implicitDefEqProofs (disch := first | decide | exact of_eq_true (eq_true rfl) | omega | assumption) only [ ↓vcD, vcE, evs, evP, evB, intsOf, fillC, Value.cells, pt, List.append_nil, List.nil_append, List.cons_append, List.length_cons, List.length_nil, List.filter_nil, List.map_nil, ↓List.getElem?_cons_zero, ↓List.getElem?_cons_succ, List.getElem?_cons_zero, List.getElem?_cons_succ, List.set_cons_zero, List.set_cons_succ, Option.join_some, Option.join_none, Option.map_some, List.all_cons, List.all_nil, Value.oneCell', reduceIte, reduceCtorEq, Nat.reduceEqDiff, Nat.reduceAdd, Nat.reduceMul, Nat.reduceLT, Nat.reduceBEq, Nat.reduceLeDiff, Nat.reduceSub, List.size_toArray]
        exact CutQ.mk () trivial (Wk.sub ⟨rfl, rfl, trivial⟩)
      refine ITri.reg pokT ?_
      simp -implicitDefEqProofs (disch := first | decide | exact of_eq_true (eq_true rfl) | omega | assumption) only [ ↓vcD, vcE, evs, evP, evB, intsOf, fillC, Value.cells, pt, List.append_nil, List.nil_append, List.cons_append, List.length_cons, List.length_nil, List.filter_nil, List.map_nil, ↓List.getElem?_cons_zero, ↓List.getElem?_cons_succ, List.getElem?_cons_zero, List.getElem?_cons_succ, List.set_cons_zero, List.set_cons_succ, Option.join_some, Option.join_none, Option.map_some, List.all_cons, List.all_nil, Value.oneCell', reduceIte, reduceCtorEq, Nat.reduceEqDiff, Nat.reduceAdd, Nat.reduceMul, Nat.reduceLT, Nat.reduceBEq, Nat.reduceLeDiff, Nat.reduceSub, List.size_toArray]
      refine gen_from0 u_slT i_T rfl rfl (by omega) ?_
      try simp -implicitDefEqProofs (disch := first | decide | exact of_eq_true (eq_true rfl) | omega | assumption) only [ ↓vcD, vcE, evs, evP, evB, intsOf, fillC, Value.cells, pt, List.append_nil, List.nil_append, List.cons_append, List.length_cons, List.length_nil, List.filter_nil, List.map_nil, ↓List.getElem?_cons_zero, ↓List.getElem?_cons_succ, List.getElem?_cons_zero, List.getElem?_cons_succ, List.set_cons_zero, List.set_cons_succ, Option.join_some, Option.join_none, Option.map_some, List.all_cons, List.all_nil, Value.oneCell', reduceIte, reduceCtorEq, Nat.reduceEqDiff, Nat.reduceAdd, Nat.reduceMul, Nat.reduceLT, Nat.reduceBEq, Nat.reduceLeDiff, Nat.reduceSub, List.size_toArray]
      refine ITri.block ?_
      refine ITri.loop (fun _ : Unit => [(10, .slice (some ⟨2, 0, none⟩) p openB), (11, .slice (some ⟨3, 0, none⟩) q openB), (95, .int .i64 0), (96, .int .i64 0)]) (fun _ => []) (fun _ => tkM l (List.replicate p (-1)) ((List.replicate q (-1)).set r since)) (fun _ => True) (fun _ => 0) () trivial (Wk.gc [0, 1, 3, 5] [] (of_decide_eq_true rfl) (of_decide_eq_true rfl) rfl rfl (of_decide_eq_true rfl) rfl rfl (fun _ h => by cases h) rfl (by simp -implicitDefEqProofs (disch := first | decide | exact of_eq_true (eq_true rfl) | omega | assumption) only [objOK, sgL, xiL, objAt, nilO, OM, mvL, mv, mvS, okS, okP, mvL_rows, okML, okM, okML_rows, List.getElem?_cons_zero, Option.getD_some, implies_true, imp_self, ne_eq, and_self, ↓vcD, vcE, evs, evP, evB, intsOf, fillC, Value.cells, pt, List.append_nil, List.nil_append, List.cons_append, List.length_cons, List.length_nil, List.filter_nil, List.map_nil, ↓List.getElem?_cons_zero, ↓List.getElem?_cons_succ, List.getElem?_cons_zero, List.getElem?_cons_succ, List.set_cons_zero, List.set_cons_succ, Option.join_some, Option.join_none, Option.map_some, List.all_cons, List.all_nil, Value.oneCell', reduceIte, reduceCtorEq, Nat.reduceEqDiff, Nat.reduceAdd, Nat.reduceMul, Nat.reduceLT, Nat.reduceBEq, Nat.reduceLeDiff, Nat.reduceSub, List.size_toArray]) (by simp -implicitDefEqProofs (disch := first | decide | exact of_eq_true (eq_true rfl) | omega | assumption) only [hn0, valOK, sgL, xiL, mv, mvA, mvL, mvS, okS, okP, okM, okMA, okML, Option.getD_some, implies_true, and_self, Int.natCast_add, Int.cast_ofNat_Int, ↓vcD, vcE, evs, evP, evB, intsOf, fillC, Value.cells, pt, List.append_nil, List.nil_append, List.cons_append, List.length_cons, List.length_nil, List.filter_nil, List.map_nil, ↓List.getElem?_cons_zero, ↓List.getElem?_cons_succ, List.getElem?_cons_zero, List.getElem?_cons_succ, List.set_cons_zero, List.set_cons_succ, Option.join_some, Option.join_none, Option.map_some, List.all_cons, List.all_nil, Value.oneCell', reduceIte, reduceCtorEq, Nat.reduceEqDiff, Nat.reduceAdd, Nat.reduceMul, Nat.reduceLT, Nat.reduceBEq, Nat.reduceLeDiff, Nat.reduceSub, List.size_toArray]) (fun _ h => by cases h) ⟨rfl, fun _ h => by cases h⟩) fun _ _ => ?_
      refine ITri.seq ?_
      refine ITri.reg pokT ?_; simp -implicitDefEqProofs (disch := first | decide | exact of_eq_true (eq_true rfl) | omega | assumption) only [ ↓vcD, vcE, evs, evP, evB, intsOf, fillC, Value.cells, pt, List.append_nil, List.nil_append, List.cons_append, List.length_cons, List.length_nil, List.filter_nil, List.map_nil, ↓List.getElem?_cons_zero, ↓List.getElem?_cons_succ, List.getElem?_cons_zero, List.getElem?_cons_succ, List.set_cons_zero, List.set_cons_succ, Option.join_some, Option.join_none, Option.map_some, List.all_cons, List.all_nil, Value.oneCell', reduceIte, reduceCtorEq, Nat.reduceEqDiff, Nat.reduceAdd, Nat.reduceMul, Nat.reduceLT, Nat.reduceBEq, Nat.reduceLeDiff, Nat.reduceSub, List.size_toArray] -- r21
      refine ITri.seq ?_
      refine ITri.cond (v := false) rfl (fun h => by cases h) (fun _ => ?_)
      refine ITri.exit ?_; try simp -implicitDefEqProofs (disch := first | decide | exact of_eq_true (eq_true rfl) | omega | assumption) only [ ↓vcD, vcE, evs, evP, evB, intsOf, fillC, Value.cells, pt, List.append_nil, List.nil_append, List.cons_append, List.length_cons, List.length_nil, List.filter_nil, List.map_nil, ↓List.getElem?_cons_zero, ↓List.getElem?_cons_succ, List.getElem?_cons_zero, List.getElem?_cons_succ, List.set_cons_zero, List.set_cons_succ, Option.join_some, Option.join_none, Option.map_some, List.all_cons, List.all_nil, Value.oneCell', reduceIte, reduceCtorEq, Nat.reduceEqDiff, Nat.reduceAdd, Nat.reduceMul, Nat.reduceLT, Nat.reduceBEq, Nat.reduceLeDiff, Nat.reduceSub, List.size_toArray]
      exact CutQ.mk () trivial (Wk.sub ⟨rfl, rfl, trivial⟩)
    · rcases hc with rfl | ⟨hc0, _⟩
      rotate_left
      · omega
      refine ITri.reg pokT ?_
      simp -implicitDefEqProofs (disch := first | decide | exact of_eq_true (eq_true rfl) | omega | assumption) only [ ↓vcD, vcE, evs, evP, evB, intsOf, fillC, Value.cells, pt, List.append_nil, List.nil_append, List.cons_append, List.length_cons, List.length_nil, List.filter_nil, List.map_nil, ↓List.getElem?_cons_zero, ↓List.getElem?_cons_succ, List.getElem?_cons_zero, List.getElem?_cons_succ, List.set_cons_zero, List.set_cons_succ, Option.join_some, Option.join_none, Option.map_some, List.all_cons, List.all_nil, Value.oneCell', reduceIte, reduceCtorEq, Nat.reduceEqDiff, Nat.reduceAdd, Nat.reduceMul, Nat.reduceLT, Nat.reduceBEq, Nat.reduceLeDiff, Nat.reduceSub, List.size_toArray]
      refine gen_fromE u_slT i_T rfl rfl (by omega) hn0 ?_
      simp -implicitDefEqProofs (disch := first | decide | exact of_eq_true (eq_true rfl) | omega | assumption) only [Hq_bump,  ↓vcD, vcE, evs, evP, evB, intsOf, fillC, Value.cells, pt, List.append_nil, List.nil_append, List.cons_append, List.length_cons, List.length_nil, List.filter_nil, List.map_nil, ↓List.getElem?_cons_zero, ↓List.getElem?_cons_succ, List.getElem?_cons_zero, List.getElem?_cons_succ, List.set_cons_zero, List.set_cons_succ, Option.join_some, Option.join_none, Option.map_some, List.all_cons, List.all_nil, Value.oneCell', reduceIte, reduceCtorEq, Nat.reduceEqDiff, Nat.reduceAdd, Nat.reduceMul, Nat.reduceLT, Nat.reduceBEq, Nat.reduceLeDiff, Nat.reduceSub, List.size_toArray]
      refine ITri.block ?_
      refine ITri.loop (fun _ : Unit => [(10, .slice (some ⟨2, 0, none⟩) p openB), (11, .slice (some ⟨3, 0, none⟩) q openB), (95, .int .i64 0), (96, .int .i64 0)]) (fun _ => []) (fun _ => tkM l (List.replicate p (-1)) ((List.replicate q (-1)).set r since)) (fun _ => True) (fun _ => 0) () trivial (Wk.gc [0, 1, 3, 5] [] (of_decide_eq_true rfl) (of_decide_eq_true rfl) rfl rfl (of_decide_eq_true rfl) rfl rfl (fun _ h => by cases h) rfl (by simp -implicitDefEqProofs (disch := first | decide | exact of_eq_true (eq_true rfl) | omega | assumption) only [objOK, sgL, xiL, objAt, nilO, OM, mvL, mv, mvS, okS, okP, mvL_rows, okML, okM, okML_rows, List.getElem?_cons_zero, Option.getD_some, implies_true, imp_self, ne_eq, and_self, ↓vcD, vcE, evs, evP, evB, intsOf, fillC, Value.cells, pt, List.append_nil, List.nil_append, List.cons_append, List.length_cons, List.length_nil, List.filter_nil, List.map_nil, ↓List.getElem?_cons_zero, ↓List.getElem?_cons_succ, List.getElem?_cons_zero, List.getElem?_cons_succ, List.set_cons_zero, List.set_cons_succ, Option.join_some, Option.join_none, Option.map_some, List.all_cons, List.all_nil, Value.oneCell', reduceIte, reduceCtorEq, Nat.reduceEqDiff, Nat.reduceAdd, Nat.reduceMul, Nat.reduceLT, Nat.reduceBEq, Nat.reduceLeDiff, Nat.reduceSub, List.size_toArray]) (by simp -implicitDefEqProofs (disch := first | decide | exact of_eq_true (eq_true rfl) | omega | assumption) only [ valOK, sgL, xiL, mv, mvA, mvL, mvS, okS, okP, okM, okMA, okML, Option.getD_some, implies_true, and_self, Int.natCast_add, Int.cast_ofNat_Int, ↓vcD, vcE, evs, evP, evB, intsOf, fillC, Value.cells, pt, List.append_nil, List.nil_append, List.cons_append, List.length_cons, List.length_nil, List.filter_nil, List.map_nil, ↓List.getElem?_cons_zero, ↓List.getElem?_cons_succ, List.getElem?_cons_zero, List.getElem?_cons_succ, List.set_cons_zero, List.set_cons_succ, Option.join_some, Option.join_none, Option.map_some, List.all_cons, List.all_nil, Value.oneCell', reduceIte, reduceCtorEq, Nat.reduceEqDiff, Nat.reduceAdd, Nat.reduceMul, Nat.reduceLT, Nat.reduceBEq, Nat.reduceLeDiff, Nat.reduceSub, List.size_toArray]) (fun _ h => by cases h) ⟨rfl, fun _ h => by cases h⟩) fun _ _ => ?_
      refine ITri.seq ?_
      refine ITri.reg pokT ?_; simp -implicitDefEqProofs (disch := first | decide | exact of_eq_true (eq_true rfl) | omega | assumption) only [ ↓vcD, vcE, evs, evP, evB, intsOf, fillC, Value.cells, pt, List.append_nil, List.nil_append, List.cons_append, List.length_cons, List.length_nil, List.filter_nil, List.map_nil, ↓List.getElem?_cons_zero, ↓List.getElem?_cons_succ, List.getElem?_cons_zero, List.getElem?_cons_succ, List.set_cons_zero, List.set_cons_succ, Option.join_some, Option.join_none, Option.map_some, List.all_cons, List.all_nil, Value.oneCell', reduceIte, reduceCtorEq, Nat.reduceEqDiff, Nat.reduceAdd, Nat.reduceMul, Nat.reduceLT, Nat.reduceBEq, Nat.reduceLeDiff, Nat.reduceSub, List.size_toArray] -- r21
      refine ITri.seq ?_
      refine ITri.cond (v := false) rfl (fun h => by cases h) (fun _ => ?_)
      refine ITri.exit ?_; try simp -implicitDefEqProofs (disch := first | decide | exact of_eq_true (eq_true rfl) | omega | assumption) only [ ↓vcD, vcE, evs, evP, evB, intsOf, fillC, Value.cells, pt, List.append_nil, List.nil_append, List.cons_append, List.length_cons, List.length_nil, List.filter_nil, List.map_nil, ↓List.getElem?_cons_zero, ↓List.getElem?_cons_succ, List.getElem?_cons_zero, List.getElem?_cons_succ, List.set_cons_zero, List.set_cons_succ, Option.join_some, Option.join_none, Option.map_some, List.all_cons, List.all_nil, Value.oneCell', reduceIte, reduceCtorEq, Nat.reduceEqDiff, Nat.reduceAdd, Nat.reduceMul, Nat.reduceLT, Nat.reduceBEq, Nat.reduceLeDiff, Nat.reduceSub, List.size_toArray]
      exact CutQ.mk () trivial (Wk.sub ⟨rfl, rfl, trivial⟩)
  have hst2 : st < n := by omega
  rcases hc with rfl | ⟨hc0, _⟩
  rotate_left
  · omega
  refine ITri.reg pokT ?_
  simp -implicitDefEqProofs (disch := first | decide | exact of_eq_true (eq_true rfl) | omega | assumption) only [ ↓vcD, vcE, evs, evP, evB, intsOf, fillC, Value.cells, pt, List.append_nil, List.nil_append, List.cons_append, List.length_cons, List.length_nil, List.filter_nil, List.map_nil, ↓List.getElem?_cons_zero, ↓List.getElem?_cons_succ, List.getElem?_cons_zero, List.getElem?_cons_succ, List.set_cons_zero, List.set_cons_succ, Option.join_some, Option.join_none, Option.map_some, List.all_cons, List.all_nil, Value.oneCell', reduceIte, reduceCtorEq, Nat.reduceEqDiff, Nat.reduceAdd, Nat.reduceMul, Nat.reduceLT, Nat.reduceBEq, Nat.reduceLeDiff, Nat.reduceSub, List.size_toArray]
  refine gen_from (i := st) u_slT i_T sz_T rfl rfl rfl hst2 ?_
  try simp -implicitDefEqProofs (disch := first | decide | exact of_eq_true (eq_true rfl) | omega | assumption) only [ ↓vcD, vcE, evs, evP, evB, intsOf, fillC, Value.cells, pt, List.append_nil, List.nil_append, List.cons_append, List.length_cons, List.length_nil, List.filter_nil, List.map_nil, ↓List.getElem?_cons_zero, ↓List.getElem?_cons_succ, List.getElem?_cons_zero, List.getElem?_cons_succ, List.set_cons_zero, List.set_cons_succ, Option.join_some, Option.join_none, Option.map_some, List.all_cons, List.all_nil, Value.oneCell', reduceIte, reduceCtorEq, Nat.reduceEqDiff, Nat.reduceAdd, Nat.reduceMul, Nat.reduceLT, Nat.reduceBEq, Nat.reduceLeDiff, Nat.reduceSub, List.size_toArray]
  refine ITri.block ?_ -- 4
  refine ITri.loop (fun y : Nat × List Int × List Int => [(10, .slice (some ⟨2, 0, none⟩) p openB), (11, .slice (some ⟨3, 0, none⟩) q openB), (94, .slice (some ⟨1, st * 3, none⟩) (n - st) (openB + st)), (95, .int .i64 ↑(n - st)), (96, .int .i64 y.1)]) (fun _ => []) (fun y => tkM l y.2.1 y.2.2) (fun y => y.1 ≤ n - st ∧ y.2 = tnK l p q r since st (st + y.1)) (fun y => n - y.1) (0, List.replicate p (-1), (List.replicate q (-1)).set r since) ⟨Nat.zero_le _, (tnK_st l p q r since st).symm⟩ (Wk.gc [0, 1, 3, 5] [] (of_decide_eq_true rfl) (of_decide_eq_true rfl) rfl rfl (of_decide_eq_true rfl) rfl rfl (fun _ h => by cases h) rfl (by simp -implicitDefEqProofs (disch := first | decide | exact of_eq_true (eq_true rfl) | omega | assumption) only [objOK, sgL, xiL, objAt, nilO, OM, mvL, mv, mvS, okS, okP, mvL_rows, okML, okM, okML_rows, List.getElem?_cons_zero, Option.getD_some, implies_true, imp_self, ne_eq, and_self, ↓vcD, vcE, evs, evP, evB, intsOf, fillC, Value.cells, pt, List.append_nil, List.nil_append, List.cons_append, List.length_cons, List.length_nil, List.filter_nil, List.map_nil, ↓List.getElem?_cons_zero, ↓List.getElem?_cons_succ, List.getElem?_cons_zero, List.getElem?_cons_succ, List.set_cons_zero, List.set_cons_succ, Option.join_some, Option.join_none, Option.map_some, List.all_cons, List.all_nil, Value.oneCell', reduceIte, reduceCtorEq, Nat.reduceEqDiff, Nat.reduceAdd, Nat.reduceMul, Nat.reduceLT, Nat.reduceBEq, Nat.reduceLeDiff, Nat.reduceSub, List.size_toArray]) (by simp -implicitDefEqProofs (disch := first | decide | exact of_eq_true (eq_true rfl) | omega | assumption) only [ valOK, sgL, xiL, mv, mvA, mvL, mvS, okS, okP, okM, okMA, okML, Option.getD_some, implies_true, and_self, Int.natCast_add, Int.cast_ofNat_Int, ↓vcD, vcE, evs, evP, evB, intsOf, fillC, Value.cells, pt, List.append_nil, List.nil_append, List.cons_append, List.length_cons, List.length_nil, List.filter_nil, List.map_nil, ↓List.getElem?_cons_zero, ↓List.getElem?_cons_succ, List.getElem?_cons_zero, List.getElem?_cons_succ, List.set_cons_zero, List.set_cons_succ, Option.join_some, Option.join_none, Option.map_some, List.all_cons, List.all_nil, Value.oneCell', reduceIte, reduceCtorEq, Nat.reduceEqDiff, Nat.reduceAdd, Nat.reduceMul, Nat.reduceLT, Nat.reduceBEq, Nat.reduceLeDiff, Nat.reduceSub, List.size_toArray]) (fun _ h => by cases h) ⟨rfl, fun _ h => by cases h⟩) fun y hy => ?_
  obtain ⟨k, a, b⟩ := y
  obtain ⟨hk, hab⟩ := hy
  simp only at hk hab
  have la : a.length = p := by have := (tnK_len (l := l) (p := p) (q := q) (r := r) (since := since) (st := st) (k := st + k)).1; rw [← hab] at this; exact this
  have lb : b.length = q := by have := (tnK_len (l := l) (p := p) (q := q) (r := r) (since := since) (st := st) (k := st + k)).2; rw [← hab] at this; exact this
  have hge : geM (a, b) := by rw [hab]; exact tnK_ge (by omega) bs.1 hInB
  refine ITri.seq ?_
  refine ITri.reg pokT ?_; simp -implicitDefEqProofs (disch := first | decide | exact of_eq_true (eq_true rfl) | omega | assumption) only [ ↓vcD, vcE, evs, evP, evB, intsOf, fillC, Value.cells, pt, List.append_nil, List.nil_append, List.cons_append, List.length_cons, List.length_nil, List.filter_nil, List.map_nil, ↓List.getElem?_cons_zero, ↓List.getElem?_cons_succ, List.getElem?_cons_zero, List.getElem?_cons_succ, List.set_cons_zero, List.set_cons_succ, Option.join_some, Option.join_none, Option.map_some, List.all_cons, List.all_nil, Value.oneCell', reduceIte, reduceCtorEq, Nat.reduceEqDiff, Nat.reduceAdd, Nat.reduceMul, Nat.reduceLT, Nat.reduceBEq, Nat.reduceLeDiff, Nat.reduceSub, List.size_toArray] -- r21
  refine ITri.seq ?_
  refine ITri.condD (by rfl) (fun h9 => ?_) (fun h9 => ?_) -- %97
  · refine ITri.skip ?_; simp only [SeqQ_normal, BlkQ_normal]
    have hkl : st + k < l.length := by omega
    have hxb := hInB _ (nth_mem hkl)
    obtain ⟨⟨at', lot, tool⟩, hx⟩ : ∃ x, nth l (st + k) = x := ⟨_, rfl⟩
    have hnx := tnK_next (l := l) (p := p) (q := q) (bad := r) (since := since) (st := st) (k := st + k) (by omega) hkl
    rw [hx] at hxb hnx
    rw [← hab] at hnx
    obtain ⟨x0, x1, x2, x3⟩ := hxb
    simp only at x0 x1 x2 x3
    obtain ⟨t, ht⟩ : ∃ t : Nat, (t : Int) = tool := ⟨tool.toNat, by omega⟩
    subst ht
    have htk : takeC (rows eC l) (st * 3 + k * 3) 3 = some [.int .i64 at', .int .i64 lot, .int .i64 t] := by rw [← Nat.add_mul, rows_takeC (f := eC) hkl, hx]; rfl
    have gb : (rows eN b)[t]? = some (.int .i64 (nth b t)) := getN (by omega)
    have lrb : (rows eN b).length = q := by rw [len_eN, lb]
    have lra : (rows eN a).length = p := by rw [len_eN, la]
    refine ITri.seq ?_
    refine ITri.cut (fun _ : Unit => [(10, .slice (some ⟨2, 0, none⟩) p openB), (11, .slice (some ⟨3, 0, none⟩) q openB), (94, .slice (some ⟨1, st * 3, none⟩) (n - st) (openB + st)), (95, .int .i64 ↑(n - st)), (96, .int .i64 k)]) (fun _ => []) (fun _ => Hp 2 [none, some (.cells ⟨rows eC l, 0, false⟩), some (.cells ⟨rows eN (tnS (a, b) (at', lot, (t : Int))).1, 1, true⟩), some (.cells ⟨rows eN (tnS (a, b) (at', lot, (t : Int))).2, 1, true⟩), some (.cells ⟨[.int .i64 at', .int .i64 lot, .int .i64 t], 1, false⟩)]) (fun _ => True) ?_ (fun _ _ => ?_)
    · refine ITri.block ?_ -- 5
      refine ITri.seq ?_
      refine ITri.reg pokT ?_; simp -implicitDefEqProofs (disch := first | decide | exact of_eq_true (eq_true rfl) | omega | assumption) only [htk,  ↓vcD, vcE, evs, evP, evB, intsOf, fillC, Value.cells, pt, List.append_nil, List.nil_append, List.cons_append, List.length_cons, List.length_nil, List.filter_nil, List.map_nil, ↓List.getElem?_cons_zero, ↓List.getElem?_cons_succ, List.getElem?_cons_zero, List.getElem?_cons_succ, List.set_cons_zero, List.set_cons_succ, Option.join_some, Option.join_none, Option.map_some, List.all_cons, List.all_nil, Value.oneCell', reduceIte, reduceCtorEq, Nat.reduceEqDiff, Nat.reduceAdd, Nat.reduceMul, Nat.reduceLT, Nat.reduceBEq, Nat.reduceLeDiff, Nat.reduceSub, List.size_toArray] -- r22
      refine ITri.seq ?_
      refine ITri.reg pokT ?_; simp -implicitDefEqProofs (disch := first | decide | exact of_eq_true (eq_true rfl) | omega | assumption) only [lrb,  ↓vcD, vcE, evs, evP, evB, intsOf, fillC, Value.cells, pt, List.append_nil, List.nil_append, List.cons_append, List.length_cons, List.length_nil, List.filter_nil, List.map_nil, ↓List.getElem?_cons_zero, ↓List.getElem?_cons_succ, List.getElem?_cons_zero, List.getElem?_cons_succ, List.set_cons_zero, List.set_cons_succ, Option.join_some, Option.join_none, Option.map_some, List.all_cons, List.all_nil, Value.oneCell', reduceIte, reduceCtorEq, Nat.reduceEqDiff, Nat.reduceAdd, Nat.reduceMul, Nat.reduceLT, Nat.reduceBEq, Nat.reduceLeDiff, Nat.reduceSub, List.size_toArray] -- r23
      refine ITri.seq ?_
      refine ITri.seq ?_
      by_cases c1 : lot < 0
      · have e1 : tnS (a, b) (at', lot, (t : Int)) = (a, b.set t (-1)) := if_pos c1
        have hw := wr_eN (xs := b) (j := t) (-1) (by omega)
        rw [e1]
        refine ITri.reg pokT ?_; simp -implicitDefEqProofs (disch := first | decide | exact of_eq_true (eq_true rfl) | omega | assumption) only [c1, decide_true,  ↓vcD, vcE, evs, evP, evB, intsOf, fillC, Value.cells, pt, List.append_nil, List.nil_append, List.cons_append, List.length_cons, List.length_nil, List.filter_nil, List.map_nil, ↓List.getElem?_cons_zero, ↓List.getElem?_cons_succ, List.getElem?_cons_zero, List.getElem?_cons_succ, List.set_cons_zero, List.set_cons_succ, Option.join_some, Option.join_none, Option.map_some, List.all_cons, List.all_nil, Value.oneCell', reduceIte, reduceCtorEq, Nat.reduceEqDiff, Nat.reduceAdd, Nat.reduceMul, Nat.reduceLT, Nat.reduceBEq, Nat.reduceLeDiff, Nat.reduceSub, List.size_toArray] -- r24
        refine ITri.cond (v := true) rfl (fun _ => ?_) (fun h => by cases h)
        refine ITri.seq ?_
        refine ITri.reg pokT ?_; simp -implicitDefEqProofs (disch := first | decide | exact of_eq_true (eq_true rfl) | omega | assumption) only [lrb, hw, notNil, true_and,  ↓vcD, vcE, evs, evP, evB, intsOf, fillC, Value.cells, pt, List.append_nil, List.nil_append, List.cons_append, List.length_cons, List.length_nil, List.filter_nil, List.map_nil, ↓List.getElem?_cons_zero, ↓List.getElem?_cons_succ, List.getElem?_cons_zero, List.getElem?_cons_succ, List.set_cons_zero, List.set_cons_succ, Option.join_some, Option.join_none, Option.map_some, List.all_cons, List.all_nil, Value.oneCell', reduceIte, reduceCtorEq, Nat.reduceEqDiff, Nat.reduceAdd, Nat.reduceMul, Nat.reduceLT, Nat.reduceBEq, Nat.reduceLeDiff, Nat.reduceSub, List.size_toArray] -- r25
        refine ITri.exit ?_; try simp -implicitDefEqProofs (disch := first | decide | exact of_eq_true (eq_true rfl) | omega | assumption) only [ ↓vcD, vcE, evs, evP, evB, intsOf, fillC, Value.cells, pt, List.append_nil, List.nil_append, List.cons_append, List.length_cons, List.length_nil, List.filter_nil, List.map_nil, ↓List.getElem?_cons_zero, ↓List.getElem?_cons_succ, List.getElem?_cons_zero, List.getElem?_cons_succ, List.set_cons_zero, List.set_cons_succ, Option.join_some, Option.join_none, Option.map_some, List.all_cons, List.all_nil, Value.oneCell', reduceIte, reduceCtorEq, Nat.reduceEqDiff, Nat.reduceAdd, Nat.reduceMul, Nat.reduceLT, Nat.reduceBEq, Nat.reduceLeDiff, Nat.reduceSub, List.size_toArray]
        exact CutQ.mk () trivial (Wk.sub ⟨rfl, rfl, rfl, rfl, rfl, trivial⟩)
      obtain ⟨lo, hlo⟩ : ∃ lo : Nat, (lo : Int) = lot := ⟨lot.toNat, by omega⟩
      subst hlo
      have ga : (rows eN a)[lo]? = some (.int .i64 (nth a lo)) := getN (by omega)
      have e1 : tnS (a, b) (at', (lo : Int), (t : Int)) = if 0 ≤ nth b t ∧ nth a lo < 0 then (a.set lo at', b) else if nth b t < 0 ∧ 0 ≤ nth a lo then (a, b.set t at') else (a, b) := if_neg c1
      have g1 := hge.1 lo (by show lo < a.length; omega)
      have g2 := hge.2 t (by show t < b.length; omega)
      simp only at g1 g2
      rw [e1]
      refine ITri.reg pokT ?_; simp -implicitDefEqProofs (disch := first | decide | exact of_eq_true (eq_true rfl) | omega | assumption) only [c1, decide_false,  ↓vcD, vcE, evs, evP, evB, intsOf, fillC, Value.cells, pt, List.append_nil, List.nil_append, List.cons_append, List.length_cons, List.length_nil, List.filter_nil, List.map_nil, ↓List.getElem?_cons_zero, ↓List.getElem?_cons_succ, List.getElem?_cons_zero, List.getElem?_cons_succ, List.set_cons_zero, List.set_cons_succ, Option.join_some, Option.join_none, Option.map_some, List.all_cons, List.all_nil, Value.oneCell', reduceIte, reduceCtorEq, Nat.reduceEqDiff, Nat.reduceAdd, Nat.reduceMul, Nat.reduceLT, Nat.reduceBEq, Nat.reduceLeDiff, Nat.reduceSub, List.size_toArray] -- r24
      refine ITri.cond (v := false) rfl (fun h => by cases h) (fun _ => ?_); refine ITri.skip ?_; simp only [SeqQ_normal, BlkQ_normal]
      refine ITri.seq ?_
      refine ITri.reg pokT ?_; simp -implicitDefEqProofs (disch := first | decide | exact of_eq_true (eq_true rfl) | omega | assumption) only [lra,  ↓vcD, vcE, evs, evP, evB, intsOf, fillC, Value.cells, pt, List.append_nil, List.nil_append, List.cons_append, List.length_cons, List.length_nil, List.filter_nil, List.map_nil, ↓List.getElem?_cons_zero, ↓List.getElem?_cons_succ, List.getElem?_cons_zero, List.getElem?_cons_succ, List.set_cons_zero, List.set_cons_succ, Option.join_some, Option.join_none, Option.map_some, List.all_cons, List.all_nil, Value.oneCell', reduceIte, reduceCtorEq, Nat.reduceEqDiff, Nat.reduceAdd, Nat.reduceMul, Nat.reduceLT, Nat.reduceBEq, Nat.reduceLeDiff, Nat.reduceSub, List.size_toArray] -- r26
      refine ITri.seq ?_
      by_cases c2 : nth b t = -1
      · by_cases c3 : nth a lo = -1
        · rw [if_neg (by omega), if_neg (by omega)]
          refine ITri.draw pokT ?_; simp -implicitDefEqProofs (disch := first | decide | exact of_eq_true (eq_true rfl) | omega | assumption) only [ga, gb, c2, c3, eq_self, decide_true, bne_self_eq_false, notNil, true_and,  ↓vcD, vcE, evs, evP, evB, intsOf, fillC, Value.cells, pt, List.append_nil, List.nil_append, List.cons_append, List.length_cons, List.length_nil, List.filter_nil, List.map_nil, ↓List.getElem?_cons_zero, ↓List.getElem?_cons_succ, List.getElem?_cons_zero, List.getElem?_cons_succ, List.set_cons_zero, List.set_cons_succ, Option.join_some, Option.join_none, Option.map_some, List.all_cons, List.all_nil, Value.oneCell', reduceIte, reduceCtorEq, Nat.reduceEqDiff, Nat.reduceAdd, Nat.reduceMul, Nat.reduceLT, Nat.reduceBEq, Nat.reduceLeDiff, Nat.reduceSub, List.size_toArray] -- r27
          refine ITri.cond (v := false) rfl (fun h => by cases h) (fun _ => ?_)
          refine ITri.skip ?_; simp only [SeqQ_normal, BlkQ_normal]
          exact CutQ.mk () trivial (Wk.sub ⟨rfl, rfl, rfl, rfl, rfl, trivial⟩)
        · have hw := wr_eN (xs := b) (j := t) at' (by omega)
          rw [if_neg (by omega), if_pos (by omega)]
          refine ITri.draw pokT ?_; simp -implicitDefEqProofs (disch := first | decide | exact of_eq_true (eq_true rfl) | omega | assumption) only [ga, gb, c2, c3, eq_self, decide_true, decide_false, notNil, true_and,  ↓vcD, vcE, evs, evP, evB, intsOf, fillC, Value.cells, pt, List.append_nil, List.nil_append, List.cons_append, List.length_cons, List.length_nil, List.filter_nil, List.map_nil, ↓List.getElem?_cons_zero, ↓List.getElem?_cons_succ, List.getElem?_cons_zero, List.getElem?_cons_succ, List.set_cons_zero, List.set_cons_succ, Option.join_some, Option.join_none, Option.map_some, List.all_cons, List.all_nil, Value.oneCell', reduceIte, reduceCtorEq, Nat.reduceEqDiff, Nat.reduceAdd, Nat.reduceMul, Nat.reduceLT, Nat.reduceBEq, Nat.reduceLeDiff, Nat.reduceSub, List.size_toArray] -- r27
          refine ITri.cond (v := true) rfl (fun _ => ?_) (fun h => by cases h)
          refine ITri.seq ?_
          refine ITri.reg pokT ?_; simp -implicitDefEqProofs (disch := first | decide | exact of_eq_true (eq_true rfl) | omega | assumption) only [ga, c3, decide_false, notNil, true_and,  ↓vcD, vcE, evs, evP, evB, intsOf, fillC, Value.cells, pt, List.append_nil, List.nil_append, List.cons_append, List.length_cons, List.length_nil, List.filter_nil, List.map_nil, ↓List.getElem?_cons_zero, ↓List.getElem?_cons_succ, List.getElem?_cons_zero, List.getElem?_cons_succ, List.set_cons_zero, List.set_cons_succ, Option.join_some, Option.join_none, Option.map_some, List.all_cons, List.all_nil, Value.oneCell', reduceIte, reduceCtorEq, Nat.reduceEqDiff, Nat.reduceAdd, Nat.reduceMul, Nat.reduceLT, Nat.reduceBEq, Nat.reduceLeDiff, Nat.reduceSub, List.size_toArray] -- r28
          refine ITri.cond (v := false) rfl (fun h => by cases h) (fun _ => ?_)
          refine ITri.reg pokT ?_; simp -implicitDefEqProofs (disch := first | decide | exact of_eq_true (eq_true rfl) | omega | assumption) only [hw, lrb, notNil, true_and,  ↓vcD, vcE, evs, evP, evB, intsOf, fillC, Value.cells, pt, List.append_nil, List.nil_append, List.cons_append, List.length_cons, List.length_nil, List.filter_nil, List.map_nil, ↓List.getElem?_cons_zero, ↓List.getElem?_cons_succ, List.getElem?_cons_zero, List.getElem?_cons_succ, List.set_cons_zero, List.set_cons_succ, Option.join_some, Option.join_none, Option.map_some, List.all_cons, List.all_nil, Value.oneCell', reduceIte, reduceCtorEq, Nat.reduceEqDiff, Nat.reduceAdd, Nat.reduceMul, Nat.reduceLT, Nat.reduceBEq, Nat.reduceLeDiff, Nat.reduceSub, List.size_toArray] -- r30
          exact CutQ.mk () trivial (Wk.sub ⟨rfl, rfl, rfl, rfl, rfl, trivial⟩)
      · by_cases c3 : nth a lo = -1
        · have hw := wr_eN (xs := a) (j := lo) at' (by omega)
          rw [if_pos (by omega)]
          refine ITri.draw pokT ?_; simp -implicitDefEqProofs (disch := first | decide | exact of_eq_true (eq_true rfl) | omega | assumption) only [ga, gb, c2, c3, eq_self, decide_true, decide_false, notNil, true_and,  ↓vcD, vcE, evs, evP, evB, intsOf, fillC, Value.cells, pt, List.append_nil, List.nil_append, List.cons_append, List.length_cons, List.length_nil, List.filter_nil, List.map_nil, ↓List.getElem?_cons_zero, ↓List.getElem?_cons_succ, List.getElem?_cons_zero, List.getElem?_cons_succ, List.set_cons_zero, List.set_cons_succ, Option.join_some, Option.join_none, Option.map_some, List.all_cons, List.all_nil, Value.oneCell', reduceIte, reduceCtorEq, Nat.reduceEqDiff, Nat.reduceAdd, Nat.reduceMul, Nat.reduceLT, Nat.reduceBEq, Nat.reduceLeDiff, Nat.reduceSub, List.size_toArray] -- r27
          refine ITri.cond (v := true) rfl (fun _ => ?_) (fun h => by cases h)
          refine ITri.seq ?_
          refine ITri.reg pokT ?_; simp -implicitDefEqProofs (disch := first | decide | exact of_eq_true (eq_true rfl) | omega | assumption) only [ga, c3, eq_self, decide_true, notNil, true_and,  ↓vcD, vcE, evs, evP, evB, intsOf, fillC, Value.cells, pt, List.append_nil, List.nil_append, List.cons_append, List.length_cons, List.length_nil, List.filter_nil, List.map_nil, ↓List.getElem?_cons_zero, ↓List.getElem?_cons_succ, List.getElem?_cons_zero, List.getElem?_cons_succ, List.set_cons_zero, List.set_cons_succ, Option.join_some, Option.join_none, Option.map_some, List.all_cons, List.all_nil, Value.oneCell', reduceIte, reduceCtorEq, Nat.reduceEqDiff, Nat.reduceAdd, Nat.reduceMul, Nat.reduceLT, Nat.reduceBEq, Nat.reduceLeDiff, Nat.reduceSub, List.size_toArray] -- r28
          refine ITri.cond (v := true) rfl (fun _ => ?_) (fun h => by cases h)
          refine ITri.reg pokT ?_; simp -implicitDefEqProofs (disch := first | decide | exact of_eq_true (eq_true rfl) | omega | assumption) only [hw, lra, notNil, true_and,  ↓vcD, vcE, evs, evP, evB, intsOf, fillC, Value.cells, pt, List.append_nil, List.nil_append, List.cons_append, List.length_cons, List.length_nil, List.filter_nil, List.map_nil, ↓List.getElem?_cons_zero, ↓List.getElem?_cons_succ, List.getElem?_cons_zero, List.getElem?_cons_succ, List.set_cons_zero, List.set_cons_succ, Option.join_some, Option.join_none, Option.map_some, List.all_cons, List.all_nil, Value.oneCell', reduceIte, reduceCtorEq, Nat.reduceEqDiff, Nat.reduceAdd, Nat.reduceMul, Nat.reduceLT, Nat.reduceBEq, Nat.reduceLeDiff, Nat.reduceSub, List.size_toArray] -- r29
          exact CutQ.mk () trivial (Wk.sub ⟨rfl, rfl, rfl, rfl, rfl, trivial⟩)
        · rw [if_neg (by omega), if_neg (by omega)]
          refine ITri.draw pokT ?_; simp -implicitDefEqProofs (disch := first | decide | exact of_eq_true (eq_true rfl) | omega | assumption) only [ga, gb, c2, c3, decide_false, bne_self_eq_false, notNil, true_and,  ↓vcD, vcE, evs, evP, evB, intsOf, fillC, Value.cells, pt, List.append_nil, List.nil_append, List.cons_append, List.length_cons, List.length_nil, List.filter_nil, List.map_nil, ↓List.getElem?_cons_zero, ↓List.getElem?_cons_succ, List.getElem?_cons_zero, List.getElem?_cons_succ, List.set_cons_zero, List.set_cons_succ, Option.join_some, Option.join_none, Option.map_some, List.all_cons, List.all_nil, Value.oneCell', reduceIte, reduceCtorEq, Nat.reduceEqDiff, Nat.reduceAdd, Nat.reduceMul, Nat.reduceLT, Nat.reduceBEq, Nat.reduceLeDiff, Nat.reduceSub, List.size_toArray] -- r27
          refine ITri.cond (v := false) rfl (fun h => by cases h) (fun _ => ?_)
          refine ITri.skip ?_; simp only [SeqQ_normal, BlkQ_normal]
          exact CutQ.mk () trivial (Wk.sub ⟨rfl, rfl, rfl, rfl, rfl, trivial⟩)
    try simp -implicitDefEqProofs (disch := first | decide | exact of_eq_true (eq_true rfl) | omega | assumption) only [ ↓vcD, vcE, evs, evP, evB, intsOf, fillC, Value.cells, pt, List.append_nil, List.nil_append, List.cons_append, List.length_cons, List.length_nil, List.filter_nil, List.map_nil, ↓List.getElem?_cons_zero, ↓List.getElem?_cons_succ, List.getElem?_cons_zero, List.getElem?_cons_succ, List.set_cons_zero, List.set_cons_succ, Option.join_some, Option.join_none, Option.map_some, List.all_cons, List.all_nil, Value.oneCell', reduceIte, reduceCtorEq, Nat.reduceEqDiff, Nat.reduceAdd, Nat.reduceMul, Nat.reduceLT, Nat.reduceBEq, Nat.reduceLeDiff, Nat.reduceSub, List.size_toArray]
    refine ITri.reg pokT ?_; simp -implicitDefEqProofs (disch := first | decide | exact of_eq_true (eq_true rfl) | omega | assumption) only [ ↓vcD, vcE, evs, evP, evB, intsOf, fillC, Value.cells, pt, List.append_nil, List.nil_append, List.cons_append, List.length_cons, List.length_nil, List.filter_nil, List.map_nil, ↓List.getElem?_cons_zero, ↓List.getElem?_cons_succ, List.getElem?_cons_zero, List.getElem?_cons_succ, List.set_cons_zero, List.set_cons_succ, Option.join_some, Option.join_none, Option.map_some, List.all_cons, List.all_nil, Value.oneCell', reduceIte, reduceCtorEq, Nat.reduceEqDiff, Nat.reduceAdd, Nat.reduceMul, Nat.reduceLT, Nat.reduceBEq, Nat.reduceLeDiff, Nat.reduceSub, List.size_toArray] -- r31
    refine LoopQ.next (k + 1, (tnS (a, b) (at', lot, (t : Int))).1, (tnS (a, b) (at', lot, (t : Int))).2) ⟨by show k + 1 ≤ n - st; omega, ?_⟩ (by show n - (k + 1) < n - k; omega) (Wk.gc [0, 1, 2, 3] [] (of_decide_eq_true rfl) (of_decide_eq_true rfl) rfl rfl (of_decide_eq_true rfl) rfl rfl (fun _ h => by cases h) rfl (by simp -implicitDefEqProofs (disch := first | decide | exact of_eq_true (eq_true rfl) | omega | assumption) only [objOK, sgL, xiL, objAt, nilO, OM, mvL, mv, mvS, okS, okP, mvL_rows, okML, okM, okML_rows, List.getElem?_cons_zero, Option.getD_some, implies_true, imp_self, ne_eq, and_self, ↓vcD, vcE, evs, evP, evB, intsOf, fillC, Value.cells, pt, List.append_nil, List.nil_append, List.cons_append, List.length_cons, List.length_nil, List.filter_nil, List.map_nil, ↓List.getElem?_cons_zero, ↓List.getElem?_cons_succ, List.getElem?_cons_zero, List.getElem?_cons_succ, List.set_cons_zero, List.set_cons_succ, Option.join_some, Option.join_none, Option.map_some, List.all_cons, List.all_nil, Value.oneCell', reduceIte, reduceCtorEq, Nat.reduceEqDiff, Nat.reduceAdd, Nat.reduceMul, Nat.reduceLT, Nat.reduceBEq, Nat.reduceLeDiff, Nat.reduceSub, List.size_toArray]) (by simp -implicitDefEqProofs (disch := first | decide | exact of_eq_true (eq_true rfl) | omega | assumption) only [ valOK, sgL, xiL, mv, mvA, mvL, mvS, okS, okP, okM, okMA, okML, Option.getD_some, implies_true, and_self, Int.natCast_add, Int.cast_ofNat_Int, ↓vcD, vcE, evs, evP, evB, intsOf, fillC, Value.cells, pt, List.append_nil, List.nil_append, List.cons_append, List.length_cons, List.length_nil, List.filter_nil, List.map_nil, ↓List.getElem?_cons_zero, ↓List.getElem?_cons_succ, List.getElem?_cons_zero, List.getElem?_cons_succ, List.set_cons_zero, List.set_cons_succ, Option.join_some, Option.join_none, Option.map_some, List.all_cons, List.all_nil, Value.oneCell', reduceIte, reduceCtorEq, Nat.reduceEqDiff, Nat.reduceAdd, Nat.reduceMul, Nat.reduceLT, Nat.reduceBEq, Nat.reduceLeDiff, Nat.reduceSub, List.size_toArray]) (fun _ h => by cases h) ⟨rfl, fun _ h => by cases h⟩)
    exact hnx.symm
  refine ITri.exit ?_; try simp -implicitDefEqProofs (disch := first | decide | exact of_eq_true (eq_true rfl) | omega | assumption) only [ ↓vcD, vcE, evs, evP, evB, intsOf, fillC, Value.cells, pt, List.append_nil, List.nil_append, List.cons_append, List.length_cons, List.length_nil, List.filter_nil, List.map_nil, ↓List.getElem?_cons_zero, ↓List.getElem?_cons_succ, List.getElem?_cons_zero, List.getElem?_cons_succ, List.set_cons_zero, List.set_cons_succ, Option.join_some, Option.join_none, Option.map_some, List.all_cons, List.all_nil, Value.oneCell', reduceIte, reduceCtorEq, Nat.reduceEqDiff, Nat.reduceAdd, Nat.reduceMul, Nat.reduceLT, Nat.reduceBEq, Nat.reduceLeDiff, Nat.reduceSub, List.size_toArray]
  have hkn : st + k = l.length := by omega
  rw [hkn] at hab
  rw [← hab]
  exact CutQ.mk () trivial (Wk.sub ⟨rfl, rfl, trivial⟩)
end Go.Proofs.Ytfmcdbcoljpomaa
