/-
  Chapter 6: RecordTurns, by names.
-/
import Derived.Test.YtgjokhodccacoaaDoorSRecC4
set_option linter.unusedSimpArgs false
set_option linter.unusedVariables false
namespace Go.Proofs.YtgjokhodccacoaaDoor
open Go.RowKit Go.Vm
set_option maxRecDepth 100000
theorem mkMq (W H q : Int) : MkL fun ss => [.agg ⟨[Value.int .i64 W, .int .i64 H] ++ ss ++ []⟩, .int .i64 q] := MkL.agg1 (MkL.mid rfl rfl) rfl
theorem len_turn {W H : Int} {xs : List Int} {q : Int} : (turnR W H xs q).1.length ≤ 1000000 := by
  unfold turnR
  split
  · rename_i h
    obtain ⟨w, h', rfl, rfl, _, _, _, _, _, hb⟩ := mOK_parts h
    split
    · show (trnF _ _ _ xs).length ≤ _
      rw [trn_len]
      simp only [Int.toNat_natCast]
      omega
    · exact Nat.zero_le _
  · exact Nat.zero_le _
theorem len_wor {W H W' H' : Int} {xs ys : List Int} : (worR W H xs W' H' ys).1.length ≤ 1000000 := by
  unfold worR
  split
  · rename_i h
    have := mOK_len (ws_parts h).1
    show (mxF xs ys xs.length).length ≤ _
    rw [mx_len]
    omega
  · exact Nat.zero_le _
theorem turn_f {k n c sz : Nat} {op : Bool} {W H : Int} {xs : List Int} (q : Int) {h : AH} (hn : xs.length = n) (hb : n ≤ 1000000) (hs : h.sees 0 = true) (hg : h.get k = some (.cells ⟨rows eN xs, sz, op⟩)) :
    Fc Tryd.prog 56 [mV k n c W H, .int .i64 q] h (tuV h.next (turnR W H xs q)) (h.news [.cells ⟨rows eN (turnR W H xs q).1, 1, true⟩]) := by
  have F : Fc Tryd.prog 56 [mV 1 n c W H, .int .i64 q] (Hp 2 [none, some (.cells ⟨rows eN xs, 0, false⟩)]) (tuV 2 (turnR W H xs q)) ((Hp 2 [none, some (.cells ⟨rows eN xs, 0, false⟩)]).news [.cells ⟨rows eN (turnR W H xs q).1, 1, true⟩]) := by
    unfold turnR
    cases h1 : mOK W H xs with
    | false => exact turn_bad n c W H xs q hn hb h1
    | true =>
      cases h2 : inT q 0 3 with
      | false => exact turn_rng n c W H xs q hn hb h1 h2
      | true =>
        obtain ⟨w, h', rfl, rfl, a1, a2, a3, a4, a5, a6⟩ := mOK_parts h1
        obtain ⟨b1, b2⟩ := inT_ok h2
        obtain ⟨q', rfl⟩ := Int.eq_ofNat_of_zero_le b1
        have := turn_ok c w h' q' xs h1 a1 a2 a3 a4 n hn (by omega) (by omega) (by omega)
        simp only [if_true, Int.toNat_natCast]
        rw [tuV, trn_len, ← a5, hn]
        exact this
  exact Fc.lift1o (os := [((turnR W H xs q).1.length, rows eN (turnR W H xs q).1, 1)]) (mk := fun ss => [.agg ⟨[Value.int .i64 W, .int .i64 H] ++ ss ++ []⟩, .int .i64 q]) (mkv := fun ss => .tuple ⟨[.agg ⟨[Value.int .i64 (turnR W H xs q).2.1, .int .i64 (turnR W H xs q).2.2.1] ++ ss ++ []⟩, .int .i64 (turnR W H xs q).2.2.2]⟩) F (mkMq W H q) (MkV.tup (mkMq _ _ _)) (rows_no (f := eN) _) (fun o h => by simp at h; subst h; exact rows_no (f := eN) _) hs hg
theorem turnR_0 {W H : Int} {xs : List Int} (hm : mOK W H xs = true) : turnR W H xs 0 = (xs, W, H, 0) := by
  obtain ⟨w, h', rfl, rfl, a1, a2, a3, a4, a5, a6⟩ := mOK_parts hm
  unfold turnR
  rw [hm]
  simp only [if_true, Int.toNat_natCast, show inT 0 0 3 = true from rfl]
  rw [show (0 : Int).toNat = 0 from rfl, trn_0 a5]
  rfl
theorem worst_fF {f : Nat} (B : ∀ (n c m d : Nat) (W H W' H' : Int) (xs ys : List Int), xs.length = n → ys.length = m → n ≤ 1000000 → m ≤ 1000000 → wsOK W H xs W' H' ys = false → Fc Tryd.prog f [mV 1 n c W H, mV 2 m d W' H'] (Hp 3 (m2 xs ys)) (tuV 3 ([], 0, 0, 2)) ((Hp 3 (m2 xs ys)).news [.cells ⟨rows eN [], 1, true⟩]))
    (O : ∀ (n c d : Nat) (W H : Int) (xs ys : List Int), xs.length = n → ys.length = n → mOK W H xs = true → mOK W H ys = true → Fc Tryd.prog f [mV 1 n c W H, mV 2 n d W H] (Hp 3 (m2 xs ys)) (.tuple #[mV 3 n openB W H, .int .i64 0]) ((Hp 3 (m2 xs ys)).news [.cells ⟨rows eN (mxF xs ys n), 1, true⟩]))
    {k n c sz k2 m d sz2 : Nat} {op op2 : Bool} {W H W' H' : Int} {xs ys : List Int} {h : AH} (hn : xs.length = n) (hm : ys.length = m) (hb : n ≤ 1000000) (hb2 : m ≤ 1000000) (hs : h.sees 0 = true) (hg : h.get k = some (.cells ⟨rows eN xs, sz, op⟩)) (hg2 : h.get k2 = some (.cells ⟨rows eN ys, sz2, op2⟩)) :
    Fc Tryd.prog f [mV k n c W H, mV k2 m d W' H'] h (tuV h.next (worR W H xs W' H' ys)) (h.news [.cells ⟨rows eN (worR W H xs W' H' ys).1, 1, true⟩]) := by
  have F : Fc Tryd.prog f [mV 1 n c W H, mV 2 m d W' H'] (Hp 3 (m2 xs ys)) (tuV 3 (worR W H xs W' H' ys)) ((Hp 3 (m2 xs ys)).news [.cells ⟨rows eN (worR W H xs W' H' ys).1, 1, true⟩]) := by
    unfold worR
    cases h1 : wsOK W H xs W' H' ys with
    | false => exact B n c m d W H W' H' xs ys hn hm hb hb2 h1
    | true =>
      obtain ⟨a1, a2, rfl, rfl⟩ := ws_parts h1
      obtain ⟨b1, _⟩ := mOK_len a1
      obtain ⟨b2, _⟩ := mOK_len a2
      obtain rfl : n = m := by omega
      have := O n c d W H xs ys hn hm a1 a2
      simp only [if_true]
      rw [tuV, mx_len, hn]
      exact this
  exact Fc.lift2o (os := [((worR W H xs W' H' ys).1.length, rows eN (worR W H xs W' H' ys).1, 1)]) (mk := fun ss => [.agg ⟨[Value.int .i64 W, .int .i64 H] ++ ss.take 1 ++ []⟩, .agg ⟨[Value.int .i64 W', .int .i64 H'] ++ ss.drop 1 ++ []⟩]) (mkv := fun ss => .tuple ⟨[.agg ⟨[Value.int .i64 (worR W H xs W' H' ys).2.1, .int .i64 (worR W H xs W' H' ys).2.2.1] ++ ss ++ []⟩, .int .i64 (worR W H xs W' H' ys).2.2.2]⟩) F (mkM2 W H W' H') (MkV.tup (mkMq _ _ _)) (rows_no (f := eN) _) (rows_no (f := eN) _) (fun o h => by simp at h; subst h; exact rows_no (f := eN) _) hs hg hg2
theorem same_refl {W H : Int} {xs : List Int} : sameM W H W H xs xs = true := by unfold sameM; simp
/- boule/boulelaw06.RecordTurns · slots 74 · names 0:a 1:b 2:quarters 3:a 4:b 5:quarters 7:t 8:e 9:w 10:f 11:x 12:g 13:y 14:h · results [6] -/
end Go.Proofs.YtgjokhodccacoaaDoor
