/-
  Walks of chapter 7: the reference's Account.
-/
import Derived.Test.YtlkfcbdbieenhaaCropWH
namespace Go.Proofs.Ytlkfcbdbieenhaa
open Go.RowKit

/-- Whether a mm lies in a block; in a cut. -/
def inF (bs : List Bl) (p : Nat) : Bool := bs.any fun x => decide (x.1 ≤ (p : Int)) && decide ((p : Int) < x.2)
def cuF (s3 : Int) (bs : List Bl) (p : Nat) : Bool := bs.any fun x => (decide (x.2 ≤ (p : Int)) && decide ((p : Int) < x.2 + s3)) || (decide ((p : Int) < x.1) && decide (x.1 - s3 ≤ (p : Int)))
theorem inF_snoc (bs : List Bl) (x : Bl) (p : Nat) : inF (bs ++ [x]) p = (inF bs p || (decide (x.1 ≤ (p : Int)) && decide ((p : Int) < x.2))) := by simp [inF]
theorem cuF_snoc (s3 : Int) (bs : List Bl) (x : Bl) (p : Nat) : cuF s3 (bs ++ [x]) p = (cuF s3 bs p || ((decide (x.2 ≤ (p : Int)) && decide ((p : Int) < x.2 + s3)) || (decide ((p : Int) < x.1) && decide (x.1 - s3 ≤ (p : Int))))) := by simp [cuF]
/-- The document's account of so many mm. -/
def raF (s3 : Int) (N : Nat) (bs : List Bl) : Int × Int × Int :=
  (kF (inF bs) N, kF (fun p => !inF bs p && cuF s3 bs p) N, kF (fun p => !inF bs p && !cuF s3 bs p) N)

/-- What the loops keep: the saw, the result, the account. -/
structure RA (w wr : World) (s1 s2 s3 a b c : Int) : Prop where
  bel : Below w.heap.size w wr
  saw : Bk wr w.heap.size 24 #[.int .i64 s1, .int .i64 s2, .int .i64 s3]
  res : Bk wr (w.heap.size + 1) 45 #[.int .i64 0, .int .i64 0, .int .i64 0]
  out : Bk wr (w.heap.size + 1 + 1) 45 #[.int .i64 a, .int .i64 b, .int .i64 c]
section
variable {w wr W : World} {s1 s2 s3 a b c : Int}
theorem RA.below (h : RA w wr s1 s2 s3 a b c) (hb : Below wr.heap.size wr W) : RA w W s1 s2 s3 a b c :=
  ⟨thru h.bel hb, h.saw.below hb h.saw.lt, h.res.below hb h.res.lt, h.out.below hb h.out.lt⟩
theorem RA.set (h : RA w wr s1 s2 s3 a b c) (j : Nat) (u : Value) (a' b' c' : Int) (e : #[Value.int .i64 a, .int .i64 b, .int .i64 c].setIfInBounds j u = #[.int .i64 a', .int .i64 b', .int .i64 c']) : RA w (wr.setCell ⟨w.heap.size + 1 + 1, j, none⟩ u) s1 s2 s3 a' b' c' :=
  ⟨bs h.bel (by simp <;> omega), h.saw.other (by simp <;> omega) _, h.res.other (by simp <;> omega) _, h.out.put j _ _ e⟩
end

set_option maxRecDepth 100000 in
set_option maxHeartbeats 8000000 in
theorem refAccount_any (A : Option Addr) (n cap B : Nat) (l : List St) (s1 s2 s3 : Int) (A2 : Option Addr) (n2 cap2 B2 : Nat) (bs : List Bl) (w : World) (h : Sl eII 2 w B A n l) (hB : B ≤ w.heap.size) (hn : n ≤ 1000) (hg : l.any badSt = false) (hlf : lenF l ≤ 3000) (hs3 : 0 ≤ s3 ∧ s3 ≤ 20)
    (h2 : Sl eII 2 w B2 A2 n2 bs) (hB2 : B2 ≤ w.heap.size) (hn2 : n2 ≤ 100000) (hin : inN (lenF l) bs) :
    Calls Try.prog 30 #[.slice A n cap, .agg #[.int .i64 s1, .int .i64 s2, .int .i64 s3], .slice A2 n2 cap2] w fun e w' => e = .returned (acV (raF s3 (wF l).length bs)) ∧ Below w.heap.size w w' := by
  have hlen2 := h2.len
  have HIN := Lib.hid hin
  have hwl := wF_len l hg
  have LL := Lib.hid (fun W (hb : Below w.heap.size w W) => refLength_any A n cap B l W (h.below (hb.mono hB)) hn hg)
  have R0 := Lib.hid (show RA w (((w.alloc (.cells #[.int .i64 s1, .int .i64 s2, .int .i64 s3] 24)).alloc (.cells #[.int .i64 0, .int .i64 0, .int .i64 0] 45)).alloc (.cells #[.int .i64 0, .int .i64 0, .int .i64 0] 45)) s1 s2 s3 0 0 0 from
    ⟨ba (ba (ba (Below.refl _ _))), ((Bk.newAt w _ _ _ rfl).alloc _).alloc _, (Bk.newAt _ _ _ _ (by simp)).alloc _, Bk.newAt _ _ _ _ (by simp)⟩)
  clear hin
  generalize hN : (wF l).length = N at *
  have HWL := Lib.hid hwl
  have hN3 : N ≤ 3000 := by omega
  rw [← hwl] at LL
  clear hwl hN
  go_enter Try.func30, Try.ntmps30
  go_wp2
  go_loopw [8] (fun v wr => ∃ p : Nat, p ≤ N ∧ v = .int .i64 p ∧ RA w wr s1 s2 s3 (kF (inF bs) p) (kF (fun q => !inF bs q && cuF s3 bs q) p) (kF (fun q => !inF bs q && !cuF s3 bs q) p)) (fun v _ => N - (intOf v).toNat)
  case atStart => exact ⟨0, Nat.zero_le _, rfl, R0.out⟩
  case round =>
    obtain ⟨p, hp, rfl, ra⟩ := hrel
    have hk1 := kF_bd (inF bs) p
    have hk2 := kF_bd (fun q => !inF bs q && cuF s3 bs q) p
    have hk3 := kF_bd (fun q => !inF bs q && !cuF s3 bs q) p
    have HK1 := Lib.hid (show kF (inF bs) (p + 1) = kF (inF bs) p + if inF bs p then 1 else 0 from rfl)
    have HK2 := Lib.hid (show kF (fun q => !inF bs q && cuF s3 bs q) (p + 1) = kF (fun q => !inF bs q && cuF s3 bs q) p + if (!inF bs p && cuF s3 bs p) then 1 else 0 from rfl)
    have HK3 := Lib.hid (show kF (fun q => !inF bs q && !cuF s3 bs q) (p + 1) = kF (fun q => !inF bs q && !cuF s3 bs q) p + if (!inF bs p && !cuF s3 bs p) then 1 else 0 from rfl)
    have HRF := Lib.hid (show p = N → raF s3 N bs = (kF (inF bs) p, kF (fun q => !inF bs q && cuF s3 bs q) p, kF (fun q => !inF bs q && !cuF s3 bs q) p) from fun e => by subst e; rfl)
    generalize hwi : wr = wi at *
    clear hwi
    generalize kF (inF bs) p = ka at *
    generalize kF (fun q => !inF bs q && cuF s3 bs q) p = kb at *
    generalize kF (fun q => !inF bs q && !cuF s3 bs q) p = kc at *
    have HRA := Lib.hid ra
    have LI := Lib.hid (LL.out wi ra.bel)
    by_cases hlt : p < N
    · clear ra
      go_wp2_with (go_at_call 13; refine LI.out.mono ?_; rintro e w1 ⟨rfl, rfl⟩)
      go_loopw [9, 10, 11] (fun a b v wq => ∃ k : Nat, k ≤ n2 ∧ v = .int .i64 k ∧ a = .bool (inF (bs.take k) p) ∧ b = .bool (cuF s3 (bs.take k) p) ∧ Below wi.heap.size wi wq) (fun _ _ v _ => n2 - (intOf v).toNat)
      case atStart => exact ⟨0, Nat.zero_le _, rfl, rfl, rfl, Below.refl _ _⟩
      case round =>
        obtain ⟨k, hk, rfl, rfl, rfl, hbq⟩ := hrel
        generalize hwq : wr = wq at *
        clear hwq
        have raq := HRA.out.below hbq
        by_cases hk2 : k < n2
        · obtain ⟨x, hx⟩ := h2.get hk2
          obtain ⟨b, off, rfl, hb, c1, c2⟩ := (h2.below (raq.bel.mono hB2)).at2 hx
          obtain ⟨x1, x2⟩ := x
          have hxn := HIN.out _ (List.mem_of_getElem? hx)
          rw [← HWL.out] at hxn
          have HI := Lib.hid (show inF (bs.take (k + 1)) p = _ by rw [take_snoc hx, inF_snoc])
          have HJ := Lib.hid (show cuF s3 (bs.take (k + 1)) p = _ by rw [take_snoc hx, cuF_snoc])
          simp only at c1 c2 hxn HI HJ
          obtain ⟨⟨z0, z1, z2⟩, -⟩ := raq.saw.c3
          have hbw : b < wq.heap.size := by have := raq.bel.size; omega
          have hw0 := raq.saw.lt
          have HB := Lib.hid (ba (o := .cells #[.int .i64 x1, .int .i64 x2] 49) hbq)
          clear hx raq hbq
          generalize inF (bs.take k) p = I at *
          generalize cuF s3 (bs.take k) p = J at *
          have hcls : (p : Int) < x1 - s3 ∨ (x1 - s3 ≤ (p : Int) ∧ (p : Int) < x1) ∨ (x1 ≤ (p : Int) ∧ (p : Int) < x2) ∨ (x2 ≤ (p : Int) ∧ x1 ≤ (p : Int) ∧ (p : Int) < x2 + s3) ∨ (x2 + s3 ≤ (p : Int)) := by omega
          rcases hcls with hc | ⟨hc, hc'⟩ | ⟨hc, hc'⟩ | ⟨hc, hc', hc2⟩ | hc
          · have HIb := Lib.hid (show (decide (x1 ≤ (p : Int)) && decide ((p : Int) < x2)) = false by simp <;> omega)
            have HJb := Lib.hid (show ((decide (x2 ≤ (p : Int)) && decide ((p : Int) < x2 + s3)) || (decide ((p : Int) < x1) && decide (x1 - s3 ≤ (p : Int)))) = false by simp <;> omega)
            have d1 : decide (x1 ≤ (p : Int)) = false := decide_eq_false (by omega)
            have d3 : decide (x2 ≤ (p : Int)) = false := decide_eq_false (by omega)
            have d6 : decide (x1 - s3 ≤ (p : Int)) = false := decide_eq_false (by omega)
            cases I <;> cases J
            all_goals
              go_wp2
              go_roundw
              case rel => exact ⟨k + 1, by omega, by go_num, congrArg Value.bool (by rw [HI.out, HIb.out]; rfl), congrArg Value.bool (by rw [HJ.out, HJb.out]; rfl), HB.out⟩
              case measure => simp [intOf]; omega
          · have HIb := Lib.hid (show (decide (x1 ≤ (p : Int)) && decide ((p : Int) < x2)) = false by simp <;> omega)
            have HJb := Lib.hid (show ((decide (x2 ≤ (p : Int)) && decide ((p : Int) < x2 + s3)) || (decide ((p : Int) < x1) && decide (x1 - s3 ≤ (p : Int)))) = true by simp <;> omega)
            have d1 : decide (x1 ≤ (p : Int)) = false := decide_eq_false (by omega)
            have d3 : decide (x2 ≤ (p : Int)) = false := decide_eq_false (by omega)
            cases I <;> cases J
            all_goals
              go_wp2
              go_roundw
              case rel => exact ⟨k + 1, by omega, by go_num, congrArg Value.bool (by rw [HI.out, HIb.out]; rfl), congrArg Value.bool (by rw [HJ.out, HJb.out]; rfl), HB.out⟩
              case measure => simp [intOf]; omega
          · have HIb := Lib.hid (show (decide (x1 ≤ (p : Int)) && decide ((p : Int) < x2)) = true by simp <;> omega)
            have HJb := Lib.hid (show ((decide (x2 ≤ (p : Int)) && decide ((p : Int) < x2 + s3)) || (decide ((p : Int) < x1) && decide (x1 - s3 ≤ (p : Int)))) = false by simp <;> omega)
            have d3 : decide (x2 ≤ (p : Int)) = false := decide_eq_false (by omega)
            have d5 : decide ((p : Int) < x1) = false := decide_eq_false (by omega)
            cases I <;> cases J
            all_goals
              go_wp2
              go_roundw
              case rel => exact ⟨k + 1, by omega, by go_num, congrArg Value.bool (by rw [HI.out, HIb.out]; rfl), congrArg Value.bool (by rw [HJ.out, HJb.out]; rfl), HB.out⟩
              case measure => simp [intOf]; omega
          · have HIb := Lib.hid (show (decide (x1 ≤ (p : Int)) && decide ((p : Int) < x2)) = false by simp <;> omega)
            have HJb := Lib.hid (show ((decide (x2 ≤ (p : Int)) && decide ((p : Int) < x2 + s3)) || (decide ((p : Int) < x1) && decide (x1 - s3 ≤ (p : Int)))) = true by simp <;> omega)
            have d2 : decide ((p : Int) < x2) = false := decide_eq_false (by omega)
            have d5 : decide ((p : Int) < x1) = false := decide_eq_false (by omega)
            cases I <;> cases J
            all_goals
              go_wp2
              go_roundw
              case rel => exact ⟨k + 1, by omega, by go_num, congrArg Value.bool (by rw [HI.out, HIb.out]; rfl), congrArg Value.bool (by rw [HJ.out, HJb.out]; rfl), HB.out⟩
              case measure => simp [intOf]; omega
          · have HIb := Lib.hid (show (decide (x1 ≤ (p : Int)) && decide ((p : Int) < x2)) = false by simp <;> omega)
            have HJb := Lib.hid (show ((decide (x2 ≤ (p : Int)) && decide ((p : Int) < x2 + s3)) || (decide ((p : Int) < x1) && decide (x1 - s3 ≤ (p : Int)))) = false by simp <;> omega)
            have d2 : decide ((p : Int) < x2) = false := decide_eq_false (by omega)
            have d4 : decide ((p : Int) < x2 + s3) = false := decide_eq_false (by omega)
            have d5 : decide ((p : Int) < x1) = false := decide_eq_false (by omega)
            cases I <;> cases J
            all_goals
              go_wp2
              go_roundw
              case rel => exact ⟨k + 1, by omega, by go_num, congrArg Value.bool (by rw [HI.out, HIb.out]; rfl), congrArg Value.bool (by rw [HJ.out, HJb.out]; rfl), HB.out⟩
              case measure => simp [intOf]; omega
        · have ht : bs.take k = bs := List.take_of_length_le (by omega)
          rw [ht]
          have RQ := Lib.hid raq
          obtain ⟨⟨z0, z1, z2⟩, ⟨f0, f1, f2⟩⟩ := raq.out.c3
          clear raq ht
          cases hI : inF bs p
          · cases hJ : cuF s3 bs p
            · rw [hI, hJ] at HK2 HK3
              rw [hI] at HK1
              have HS := Lib.hid (RQ.out.set 2 (.int .i64 (kc + 1)) ka kb (kc + 1) rfl)
              clear hI hJ
              go_wp2
              go_roundw
              case rel => exact ⟨p + 1, by omega, by go_num, by rw [HK1.out, HK2.out, HK3.out]; simpa using HS.out⟩
              case measure => simp [intOf]; omega
            · rw [hI, hJ] at HK2 HK3
              rw [hI] at HK1
              have HS := Lib.hid (RQ.out.set 1 (.int .i64 (kb + 1)) ka (kb + 1) kc rfl)
              clear hI hJ
              go_wp2
              go_roundw
              case rel => exact ⟨p + 1, by omega, by go_num, by rw [HK1.out, HK2.out, HK3.out]; simpa using HS.out⟩
              case measure => simp [intOf]; omega
          · rw [hI] at HK1 HK2 HK3
            have HS := Lib.hid (RQ.out.set 0 (.int .i64 (ka + 1)) (ka + 1) kb kc rfl)
            clear hI
            generalize cuF s3 bs p = J at *
            go_wp2
            go_roundw
            case rel => exact ⟨p + 1, by omega, by go_num, by rw [HK1.out, HK2.out, HK3.out]; simpa using HS.out⟩
            case measure => simp [intOf]; omega
    · obtain rfl : p = N := by omega
      have HF := Lib.hid (HRF.out rfl)
      obtain ⟨⟨r0, r1, r2⟩, ⟨g0, g1, g2⟩⟩ := ra.res.c3
      obtain ⟨⟨z0, z1, z2⟩, -⟩ := ra.out.c3
      clear ra
      go_wp2_with (go_at_call 13; refine LI.out.mono ?_; rintro e w1 ⟨rfl, rfl⟩)
      refine bodyPost_ret (v := acV (ka, kb, kc)) (by simp [acV, results, Try.results30, go_sem, r0, r1, r2]) rfl ⟨by rw [HF.out], ?_⟩
      exact Ytlkfcbdbieenhaa.bs (Ytlkfcbdbieenhaa.bs (Ytlkfcbdbieenhaa.bs HRA.out.bel (by simp)) (by simp)) (by simp)
end Go.Proofs.Ytlkfcbdbieenhaa
