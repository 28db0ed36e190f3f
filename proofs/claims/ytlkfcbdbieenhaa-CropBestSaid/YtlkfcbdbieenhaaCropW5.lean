/-
  Walks of chapter 7, fifth part: newBoule.
-/
import Derived.Test.YtlkfcbdbieenhaaCropW4
import Derived.Test.YtlkfcbdbieenhaaMem2
namespace Go.Proofs.Ytlkfcbdbieenhaa
open Go.RowKit

/-- A boule by value: the saw, and a new row of the worth of each mm. -/
def GivesBoule (s1 s2 s3 : Int) (ws : List Int) (w : World) (en : Ending) (w' : World) : Prop :=
  ∃ A n cap, en = .returned (.agg #[.int .i64 s1, .int .i64 s2, .int .i64 s3, .slice A n cap]) ∧ Own eI 1 3 w.heap.size w' A n cap ws ∧ Below w.heap.size w w'

/-- What the loop of newBoule keeps. -/
structure NB (w wr : World) (s1 s2 s3 : Int) (A : Option Addr) (n cap : Nat) (ws : List Int) : Prop where
  bel : Below w.heap.size w wr
  res : Bk wr (w.heap.size + 1) 108 #[.int .i64 0, .int .i64 0, .int .i64 0, .slice none 0 0]
  bou : Bk wr (w.heap.size + 1 + 1) 108 #[.int .i64 s1, .int .i64 s2, .int .i64 s3, .slice A n cap]
  own : Own eI 1 3 (w.heap.size + 1 + 1 + 1) wr A n cap ws

theorem NB.below {w wr w1 : World} {s1 s2 s3 : Int} {A : Option Addr} {n cap : Nat} {ws : List Int} (h : NB w wr s1 s2 s3 A n cap ws) (hb : Below wr.heap.size wr w1) : NB w w1 s1 s2 s3 A n cap ws :=
  ⟨thru h.bel hb, h.res.below hb h.res.lt, h.bou.below hb h.bou.lt, h.own.below hb⟩
theorem NB.put {w w1 w2 : World} {s1 s2 s3 : Int} {A A3 : Option Addr} {n cap n3 cap3 : Nat} {ws ws3 : List Int} (h : NB w w1 s1 s2 s3 A n cap ws) (hg : w1.grownBy w2 (A.map (·.block))) (ho : Own eI 1 3 (w.heap.size + 1 + 1 + 1) w2 A3 n3 cap3 ws3) :
    NB w (w2.setCell ⟨w.heap.size + 1 + 1, 3, none⟩ (.slice A3 n3 cap3)) s1 s2 s3 A3 n3 cap3 ws3 :=
  ⟨(belApp h.bel h.own hg h.bel.size (by omega)).setCell (by simp <;> omega) _, (h.res.app h.own hg (by omega)).other (by simp <;> omega) _, (h.bou.app h.own hg (by omega)).put 3 _ _ rfl, ho.other (by simp) _⟩
/-- Behind the call of Repeat: the boule, and the stretch. -/
structure NBC (w wr w1 : World) (s1 s2 s3 : Int) (A : Option Addr) (n cap : Nat) (ws : List Int) (c x2 : Int) (A2 : Option Addr) (n2 cap2 : Nat) (xs : List Int) : Prop where
  nb : NB w w1 s1 s2 s3 A n cap ws
  p3 : w1.cell? ⟨w.heap.size + 1 + 1, 3, none⟩ = some (.slice A n cap)
  y0 : w1.cell? ⟨wr.heap.size, 0, none⟩ = some (.int .i64 c)
  y1 : w1.cell? ⟨wr.heap.size, 1, none⟩ = some (.int .i64 x2)
  sl : Sl eI 1 w1 w1.heap.size A2 n2 xs
theorem NB.call {w wr : World} {s1 s2 s3 : Int} {A : Option Addr} {n cap : Nat} {ws : List Int} (h : NB w wr s1 s2 s3 A n cap ws) (c : Nat) (x2 : Int) (hc : c ≤ 100000) (h0 : 0 < c) :
    Calls Try.prog 77 #[.slice (some ⟨wr.heap.size + 1, 0, none⟩) 1 1, .int .i64 c] ((wr.alloc (.cells #[.int .i64 c, .int .i64 x2] 55)).alloc (.cells #[.int .i64 x2] 3)).drew fun e w1 =>
      ∃ A2 cap2, e = .returned (.slice A2 c cap2) ∧ NBC w wr w1 s1 s2 s3 A n cap ws c x2 A2 c cap2 (List.replicate c x2) := by
  refine (repeat_any (wr.heap.size + 1) x2 c hc h0 _ ((Bk.newAt (wr.alloc (.cells #[.int .i64 c, .int .i64 x2] 55)) #[.int .i64 x2] 3 (wr.heap.size + 1) (by simp)).drew.cell rfl) (by simp)).mono ?_
  rintro e w1 ⟨A2, n2, cap2, rfl, hown2, hb2⟩
  obtain rfl : n2 = c := by have := hown2.len; simpa using this.symm
  have lb1 : Below wr.heap.size wr w1 := thru (bdr (ba (ba (Below.refl _ _)))) hb2
  have hn := h.below lb1
  have kx := (((Bk.newAt wr #[.int .i64 n2, .int .i64 x2] 55 wr.heap.size rfl).alloc (.cells #[.int .i64 x2] 3)).drew).below hb2 (by simp <;> omega)
  exact ⟨A2, cap2, rfl, hn, hn.bou.cell rfl, kx.cell rfl, kx.cell rfl, hown2.sl enc1⟩

theorem wF_one (c : Nat) (x : Int) : wF [((c : Int), x)] = List.replicate c x := by simp [wF]

set_option maxRecDepth 100000 in
set_option maxHeartbeats 2000000 in
theorem newBoule_any (A : Option Addr) (n cap B : Nat) (l : List St) (s1 s2 s3 : Int) (w : World) (h : Sl eII 2 w B A n l) (hB : B ≤ w.heap.size) (hn : n ≤ 60) (hg : l.any badSt = false) :
    Calls Try.prog 48 #[.slice A n cap, .agg #[.int .i64 s1, .int .i64 s2, .int .i64 s3]] w (GivesBoule s1 s2 s3 (wF l) w) := by
  have HG := Lib.hid hg
  clear hg
  go_enter Try.func48, Try.ntmps48
  go_wp2
  go_loopw [12] (fun i wr => ∃ (k : Nat) (A' : Option Addr) (n' cap' : Nat), k ≤ n ∧ i = .int .i64 k ∧ NB w wr s1 s2 s3 A' n' cap' (wF (l.take k))) (fun i _ => n - (intOf i).toNat)
  case atStart =>
    refine ⟨0, none, 0, 0, Nat.zero_le _, rfl, ⟨?_, ?_, ?_, Own.nil⟩⟩
    · exact (((Below.refl _ _).alloc (Nat.le_refl _) _).alloc (by simp) _).alloc (by simp; omega) _
    · have := (Bk.new (w.alloc (.cells #[.int .i64 s1, .int .i64 s2, .int .i64 s3] 24)) #[.int .i64 0, .int .i64 0, .int .i64 0, .slice none 0 0] 108).alloc (.cells #[.int .i64 s1, .int .i64 s2, .int .i64 s3, .slice none 0 0] 108)
      simpa using this
    · have := (Bk.new ((w.alloc (.cells #[.int .i64 s1, .int .i64 s2, .int .i64 s3] 24)).alloc (.cells #[.int .i64 0, .int .i64 0, .int .i64 0, .slice none 0 0] 108)) #[.int .i64 s1, .int .i64 s2, .int .i64 s3, .slice none 0 0] 108)
      simpa using this
  case round =>
    obtain ⟨k, A', n', cap', hk, rfl, hnb⟩ := hrel
    have hlen : ((wF (l.take k)).length : Int) = lenF (l.take k) := wF_len _ (any_take_f HG.out k)
    have hbd := lenF_bd (any_take_f HG.out k)
    have htl : (l.take k).length ≤ k := List.length_take_le _ _
    have hol := hnb.own.len
    have hn' : n' ≤ 180000 := by omega
    clear hlen hbd htl hol
    by_cases hlt : k < n
    · obtain ⟨x, hx⟩ := h.get hlt
      obtain ⟨b, off, rfl, hb, c1, c2⟩ := (h.below (hnb.bel.mono hB)).at2 hx
      have hx1 := badSt_f (any_at_f HG.out hx)
      have HX := Lib.hid hx
      clear hx
      obtain ⟨x1, x2⟩ := x
      obtain ⟨c, rfl⟩ : ∃ c : Nat, x1 = c := ⟨x1.toNat, by simp at hx1; omega⟩
      simp only at hx1 c1 c2
      have hc1 : 0 < c := by omega
      have hc2 : c ≤ 3000 := by omega
      clear hx1
      have hsz := hnb.bou.lt
      have CW := Lib.hid (hnb.call c x2 (by omega) hc1)
      have q3 := hnb.bou.cell (j := 3) rfl
      have hbw : b < wr.heap.size := by have := hnb.bel.size; omega
      have hm63 : n' + c ≤ maxLen := by unfold maxLen; omega
      have hw0 := hnb.bel.size
      have hq : w.heap.size + 1 + 1 < wr.heap.size + 1 := by omega
      clear hnb
      go_wp2
      go_region_law (first
        | (refine step_append_any (o := ⟨some 24, _, _, _, _, _⟩) (base := w.heap.size + 1 + 1 + 1) enc1 elI rfl (.tmp 17) (.tmp 23) rfl A' n' cap' (wF (l.take k)) (by rfl) HC.out.nb.own w1.heap.size A2 c cap2 (List.replicate c x2) (by rfl) HC.out.sl hm63 (by omega) (by have := HC.out.nb.bou.lt; omega) ?_; intro A3 cap3 w2 hown3 hgrow3 hat3; have hn2 := HC.out.nb.bou.app HC.out.nb.own hgrow3 (by omega); obtain ⟨⟨p0, p1, p2, p3⟩, ⟨f0, f1, f2, f3⟩⟩ := hn2.c4)
        | (go_simp; go_at_call 77; (with_reducible refine CW.out.mono ?_); rintro e w1 ⟨A2, cap2, rfl, hc⟩; have y0 := hc.y0; have y1 := hc.y1; have y3 := hc.p3; have HC := Lib.hid hc; clear hc))
      all_goals
        have fin := HC.out.nb.put hgrow3 hown3
        have HF := Lib.hid fin
        clear fin hown3 hgrow3 hat3 hn2
        go_wp2
        go_roundw
        case rel => exact ⟨k + 1, A3, n' + c, cap3, by omega, by go_num, by rw [take_snoc HX.out, wF_append, wF_one]; exact HF.out⟩
        case measure => simp [intOf]; omega
    · obtain ⟨⟨p0, p1, p2, p3⟩, -⟩ := hnb.bou.c4
      obtain ⟨⟨r0, r1, r2, r3⟩, ⟨f0, f1, f2, f3⟩⟩ := hnb.res.c4
      have ht : l.take k = l := List.take_of_length_le (by have := h.len; omega)
      rw [ht] at hnb
      have HNB := Lib.hid hnb
      clear ht hnb
      go_wp2
      refine bodyPost_ret (v := .agg #[.int .i64 s1, .int .i64 s2, .int .i64 s3, .slice A' n' cap']) (by simp [results, Try.results48, go_sem, r0, r1, r2, r3]) rfl ⟨A', n', cap', rfl, ?_, ?_⟩
      · refine ((((HNB.out.own.other (by simp <;> omega) _).other (by simp <;> omega) _).other (by simp <;> omega) _).other (by simp <;> omega) _).mono (by omega)
      · exact ((((HNB.out.bel.setCell (by simp) _).setCell (by simp) _).setCell (by simp) _).setCell (by simp) _)
end Go.Proofs.Ytlkfcbdbieenhaa
