/-
  Walks of chapter 7, third part: copies, the reference's Check and Length, lengthOf.
-/
import Derived.Test.YtlkfcbdbieenhaaCropW2
namespace Go.Proofs.Ytlkfcbdbieenhaa
open Go.RowKit

/-- A call that hands back a new row which reads as xs, and leaves what was there. -/
def GivesOwn {α : Type} (enc : α → List Value) (c : Nat) (e : TypeId) (xs : List α) (w : World) (en : Ending) (w' : World) : Prop :=
  ∃ A n cap, en = .returned (.slice A n cap) ∧ Own enc c e w.heap.size w' A n cap xs ∧ Below w.heap.size w w'

set_option maxHeartbeats 400000 in
theorem own_any (A : Option Addr) (n cap B : Nat) (l : List St) (w : World) (h : Sl eII 2 w B A n l) (hB : B ≤ w.heap.size) (hn : n ≤ 1000000) :
    Calls Try.prog 16 #[.slice A n cap] w (GivesOwn eII 2 55 l w) := by
  have hm : (0 : Nat) + n ≤ maxLen := by unfold maxLen; omega
  go_enter Try.func16, Try.ntmps16
  go_wp2_with (at_builtin; refine wpList_append_any (base := w.heap.size) enc2 elSt rfl _ _ rfl (some ⟨w.heap.size, 0, none⟩) 0 0 [] rfl (Own.lit enc2 (Nat.le_refl _) (Nat.zero_le _) rfl) B A n cap l rfl (h.below ((Below.refl _ _).alloc hB _)) hm (by omega) (by simp) ?_; intro A' cap' w1 hown hgrow hat)
  go_ret
  refine ⟨A', n, cap', rfl, by simpa using hown, ((Below.refl _ _).alloc (Nat.le_refl _) _).grown hgrow (by simp) (fun k e => by simp at e; omega)⟩

set_option maxHeartbeats 400000 in
theorem list_any (A : Option Addr) (n cap B : Nat) (l : List Bl) (w : World) (h : Sl eII 2 w B A n l) (hB : B ≤ w.heap.size) (hn : n ≤ 1000000) :
    Calls Try.prog 20 #[.slice A n cap] w (GivesOwn eII 2 49 l w) := by
  have hm : (0 : Nat) + n ≤ maxLen := by unfold maxLen; omega
  go_enter Try.func20, Try.ntmps20
  go_wp2_with (at_builtin; refine wpList_append_any (base := w.heap.size) enc2 elBl rfl _ _ rfl (some ⟨w.heap.size, 0, none⟩) 0 0 [] rfl (Own.lit enc2 (Nat.le_refl _) (Nat.zero_le _) rfl) B A n cap l rfl (h.below ((Below.refl _ _).alloc hB _)) hm (by omega) (by simp) ?_; intro A' cap' w1 hown hgrow hat)
  go_ret
  refine ⟨A', n, cap', rfl, by simpa using hown, ((Below.refl _ _).alloc (Nat.le_refl _) _).grown hgrow (by simp) (fun k e => by simp at e; omega)⟩

theorem mm (x a b : Int) : (if b < (if x < a then a else x) then b else if x < a then a else x) = min (max x a) b := by
  omega

set_option maxHeartbeats 400000 in
theorem lengthOf_any (A : Option Addr) (n cap B : Nat) (l : List St) (w : World) (h : Sl eII 2 w B A n l) (hn : n ≤ 1000000) :
    Calls Try.prog 21 #[.slice A n cap] w fun e w' => e = .returned (.int .i64 (lenO l)) ∧ w = w' := by
  go_enter Try.func21, Try.ntmps21
  go_wp2
  go_loop [3, 4] (fun s i => ∃ k : Nat, k ≤ n ∧ i = .int .i64 k ∧ s = .int .i64 (lenO (l.take k))) (fun _ i => n - (intOf i).toNat)
  case atStart => exact ⟨0, Nat.zero_le _, rfl, rfl⟩
  case round =>
    obtain ⟨k, hk, rfl, rfl⟩ := hrel
    have hbd := lenO_bd (l.take k)
    have htl : (l.take k).length ≤ k := List.length_take_le _ _
    by_cases hlt : k < n
    · obtain ⟨x, hx⟩ := h.get hlt
      obtain ⟨b, off, rfl, hb, c1, c2⟩ := h.at2 hx
      have HX := Lib.hid hx
      clear hx
      go_wp2
      all_goals
        go_round
        case rel => exact ⟨k + 1, by omega, by go_num, by rw [take_snoc HX.out, lenO_append]; simp only [lenO]; rw [mm]; go_num⟩
        case measure => simp [intOf]; omega
    · go_wp2
      go_ret
      exact ⟨ret_int (by rw [List.take_of_length_le (by have := h.len; omega)]), rfl⟩

set_option maxHeartbeats 400000 in
theorem refLength_any (A : Option Addr) (n cap B : Nat) (l : List St) (w : World) (h : Sl eII 2 w B A n l) (hn : n ≤ 1000) (hg : l.any badSt = false) :
    Calls Try.prog 13 #[.slice A n cap] w fun e w' => e = .returned (.int .i64 (lenF l)) ∧ w = w' := by
  have HG := Lib.hid hg
  clear hg
  go_enter Try.func13, Try.ntmps13
  go_wp2
  go_loop [3, 4] (fun s i => ∃ k : Nat, k ≤ n ∧ i = .int .i64 k ∧ s = .int .i64 (lenF (l.take k))) (fun _ i => n - (intOf i).toNat)
  case atStart => exact ⟨0, Nat.zero_le _, rfl, rfl⟩
  case round =>
    obtain ⟨k, hk, rfl, rfl⟩ := hrel
    have hbd := lenF_bd (any_take_f HG.out k)
    have htl : (l.take k).length ≤ k := List.length_take_le _ _
    by_cases hlt : k < n
    · obtain ⟨x, hx⟩ := h.get hlt
      obtain ⟨b, off, rfl, hb, c1, c2⟩ := h.at2 hx
      have hx1 := badSt_f (any_at_f HG.out hx)
      have HX := Lib.hid hx
      clear hx
      go_wp2
      go_round
      case rel => exact ⟨k + 1, by omega, by go_num, by rw [take_snoc HX.out, lenF_append]; simp [lenF]⟩
      case measure => simp [intOf]; omega
    · go_wp2
      go_ret
      exact ⟨ret_int (by rw [List.take_of_length_le (by have := h.len; omega)]), rfl⟩

set_option maxHeartbeats 1000000 in
theorem refCheck_any (A : Option Addr) (n cap B : Nat) (l : List St) (s1 s2 s3 : Int) (w : World) (h : Sl eII 2 w B A n l) (hB : B ≤ w.heap.size) (hn : n ≤ 1000000) :
    Calls Try.prog 12 #[.slice A n cap, .agg #[.int .i64 s1, .int .i64 s2, .int .i64 s3]] w fun e w' => e = .returned (.int .i64 (checkF l (s1, s2, s3))) ∧ Below w.heap.size w w' := by
  by_cases h60 : 60 < n
  · have hr : checkF l (s1, s2, s3) = 5 := by unfold checkF; rw [if_pos (by rw [h.len]; exact h60)]
    have HR := Lib.hid hr
    clear hr
    go_enter Try.func12, Try.ntmps12
    go_wp2
    go_ret
    exact ⟨ret_int HR.out.symm, (Below.refl _ _).alloc (Nat.le_refl _) _⟩
  · have h60' : n ≤ 60 := by omega
    have H60 := Lib.hid (show ¬ 60 < l.length from by rw [h.len]; exact h60)
    go_enter Try.func12, Try.ntmps12
    have h2 : Sl eII 2 (w.alloc (.cells #[.int .i64 s1, .int .i64 s2, .int .i64 s3] 24)) B A n l := h.below ((Below.refl _ _).alloc hB _)
    go_wp2
    go_loop [5, 6] (fun s i => ∃ k : Nat, k ≤ n ∧ i = .int .i64 k ∧ s = .int .i64 (lenF (l.take k)) ∧ (l.take k).any badSt = false) (fun _ i => n - (intOf i).toNat)
    case atStart => exact ⟨0, Nat.zero_le _, rfl, rfl, rfl⟩
    case round =>
      obtain ⟨k, hk, rfl, rfl, hg⟩ := hrel
      have hbd := lenF_bd hg
      have HG := Lib.hid hg
      clear hg
      have htl : (l.take k).length ≤ k := List.length_take_le _ _
      by_cases hlt : k < n
      · obtain ⟨x, hx⟩ := h.get hlt
        obtain ⟨b, off, rfl, hb, c1, c2⟩ := h2.at2 hx
        have HX := Lib.hid hx
        clear hx
        cases hb1 : inB x.1 1 3000
        · have H1 := Lib.hid hb1
          clear hb1
          go_wp2_with (go_at_call 47; refine (ref_in _ _ _ _).mono ?_; rintro e w' ⟨rfl, rfl⟩; try rw [H1.out])
          go_ret
          exact ⟨ret_int (checkF_two H60.out (.inl (List.any_eq_true.2 ⟨x, List.mem_of_getElem? HX.out, by simp [badSt, H1.out]⟩))).symm, (Below.refl _ _).alloc (Nat.le_refl _) _⟩
        · have H1 := Lib.hid hb1
          have hx1 := inB_iff.1 hb1
          clear hb1
          cases hb2 : inB x.2 (-1) 1000
          all_goals
            have H2 := Lib.hid hb2
            clear hb2
            go_wp2_with (go_at_call 47; refine (ref_in _ _ _ _).mono ?_; rintro e w' ⟨rfl, rfl⟩; first | rw [H1.out] | rw [H2.out])
          · go_ret
            exact ⟨ret_int (checkF_two H60.out (.inl (List.any_eq_true.2 ⟨x, List.mem_of_getElem? HX.out, by simp [badSt, H2.out]⟩))).symm, (Below.refl _ _).alloc (Nat.le_refl _) _⟩
          · go_round
            case rel => exact ⟨k + 1, by omega, by go_num, by rw [take_snoc HX.out, lenF_append]; simp [lenF], by rw [take_snoc HX.out, List.any_append, HG.out]; simp [badSt, H1.out, H2.out]⟩
            case measure => simp [intOf]; omega
      · have he : l.take k = l := List.take_of_length_le (by have := h.len; omega)
        rw [he] at HG hbd ⊢
        rcases saw_ways l s1 s2 s3 with h1 | ⟨h1, h2 | ⟨h2, h3 | ⟨h3, h4 | ⟨h4, h5 | h5⟩⟩⟩⟩
        all_goals
          try have H5 := Lib.hid h5
          try clear h5
          go_wp2_with (go_at_call 47; refine (ref_in _ _ _ _).mono ?_; rintro e w' ⟨rfl, rfl⟩; rw [H5.out])
          go_ret
          refine ⟨ret_int ?_, (Below.refl _ _).alloc (Nat.le_refl _) _⟩
          symm
          first
            | exact checkF_two H60.out (.inr (.inl h1))
            | exact checkF_two H60.out (.inr (.inr (.inl h2)))
            | exact checkF_two H60.out (.inr (.inr (.inr (.inl h3))))
            | exact checkF_two H60.out (.inr (.inr (.inr (.inr (.inl h4)))))
            | exact checkF_two H60.out (.inr (.inr (.inr (.inr (.inr H5.out)))))
            | exact checkF_zero H60.out HG.out (by omega) (by omega) (by omega) (by omega) H5.out
end Go.Proofs.Ytlkfcbdbieenhaa
