/-
  Walks of chapter 7, second part: Check, the reference's Check and Length, copies.
-/
import Derived.Test.YtlkfcbdbieenhaaCropW1
import Derived.Test.YtlkfcbdbieenhaaApp
namespace Go.Proofs.Ytlkfcbdbieenhaa
open Go.RowKit

theorem elSt : Elem Try.prog 22 55 2 16 := Elem.of (z := .agg #[.int .i64 0, .int .i64 0]) (by kernel_rfl) (by kernel_rfl) rfl (by decide)
theorem elBl : Elem Try.prog 29 49 2 16 := Elem.of (z := .agg #[.int .i64 0, .int .i64 0]) (by kernel_rfl) (by kernel_rfl) rfl (by decide)
theorem elI : Elem Try.prog 71 3 1 8 := Elem.of (z := .int .i64 0) (by kernel_rfl) (by kernel_rfl) rfl (by decide)

set_option maxHeartbeats 1000000 in
theorem check_any (A : Option Addr) (n cap B : Nat) (l : List St) (s1 s2 s3 : Int) (w : World) (h : Sl eII 2 w B A n l) (hB : B ≤ w.heap.size) (hn : n ≤ 1000000) :
    Calls Try.prog 24 #[.slice A n cap, .agg #[.int .i64 s1, .int .i64 s2, .int .i64 s3]] w fun e w' => e = .returned (.int .i64 (checkF l (s1, s2, s3))) ∧ Below w.heap.size w w' := by
  by_cases h60 : 60 < n
  · have hr : checkF l (s1, s2, s3) = 5 := by unfold checkF; rw [if_pos (by rw [h.len]; exact h60)]
    have HR := Lib.hid hr
    clear hr
    go_enter Try.func24, Try.ntmps24
    go_wp2
    go_ret
    exact ⟨ret_int HR.out.symm, (Below.refl _ _).alloc (Nat.le_refl _) _⟩
  · have h60' : n ≤ 60 := by omega
    have H60 := Lib.hid (show ¬ 60 < l.length from by rw [h.len]; exact h60)
    cases hbad : l.any badSt
    · have HB := Lib.hid hbad
      clear hbad
      have hlb := lenF_bd HB.out
      rcases saw_ways l s1 s2 s3 with h1 | ⟨h1, h2 | ⟨h2, h3 | ⟨h3, h4 | ⟨h4, h5 | h5⟩⟩⟩⟩
      all_goals
        try have H5 := Lib.hid h5
        try clear h5
        go_enter Try.func24, Try.ntmps24
        go_wp2_with fail
        refine (containsSt_any A n cap B l _ (h.below ((Below.refl _ _).alloc hB _)) (by simp; omega) hn).mono ?_
        rintro e w1 ⟨rfl, hb1⟩
        rw [HB.out]
        go_wp2_with fail
        refine (length_any A n cap B l _ ((h.below ((Below.refl _ _).alloc hB _)).below (hb1.mono (by simp; omega))) (by have := hb1.size; simp at this; omega) (by omega) HB.out).mono ?_
        rintro e w2 ⟨rfl, hb2⟩
        have hs1 := hb1.size
        simp at hs1
        have hbb := (((Below.refl w.heap.size w).alloc (Nat.le_refl _) _).trans (hb1.mono (by simp))).trans (hb2.mono (by omega))
        have c0 : w2.cell? ⟨w.heap.size, 0, none⟩ = some (.int .i64 s1) := (hb2.cell (by simp; omega)).trans ((hb1.cell (by simp)).trans (cell_new _ _ _ _ _ rfl))
        have c1 : w2.cell? ⟨w.heap.size, 1, none⟩ = some (.int .i64 s2) := (hb2.cell (by simp; omega)).trans ((hb1.cell (by simp)).trans (cell_new _ _ _ _ _ rfl))
        have c2 : w2.cell? ⟨w.heap.size, 2, none⟩ = some (.int .i64 s3) := (hb2.cell (by simp; omega)).trans ((hb1.cell (by simp)).trans (cell_new _ _ _ _ _ rfl))
        clear hb1 hb2
        go_wp2_with fail
        try (refine (within_any _ _ _ _).mono ?_; rintro e w3 ⟨rfl, rfl⟩; rw [H5.out]; go_wp2)
        go_ret
        refine ⟨ret_int ?_, hbb⟩
        symm
        first
          | exact checkF_two H60.out (.inr (.inl h1))
          | exact checkF_two H60.out (.inr (.inr (.inl h2)))
          | exact checkF_two H60.out (.inr (.inr (.inr (.inl h3))))
          | exact checkF_two H60.out (.inr (.inr (.inr (.inr (.inl h4)))))
          | exact checkF_two H60.out (.inr (.inr (.inr (.inr (.inr H5.out)))))
          | exact checkF_zero H60.out HB.out (by omega) (by omega) (by omega) (by omega) H5.out
    · have HB := Lib.hid hbad
      clear hbad
      go_enter Try.func24, Try.ntmps24
      go_wp2_with fail
      refine (containsSt_any A n cap B l _ (h.below ((Below.refl _ _).alloc hB _)) (by simp; omega) hn).mono ?_
      rintro e w1 ⟨rfl, hb1⟩
      rw [HB.out]
      go_wp2
      go_ret
      exact ⟨ret_int (checkF_two H60.out (.inl HB.out)).symm, ((Below.refl _ _).alloc (Nat.le_refl _) _).trans (hb1.mono (by simp))⟩
end Go.Proofs.Ytlkfcbdbieenhaa
