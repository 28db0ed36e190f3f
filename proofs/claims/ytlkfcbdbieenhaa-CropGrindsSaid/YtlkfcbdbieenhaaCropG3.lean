/-
  Walks of chapter 7, grinding: Round.
-/
import Derived.Test.YtlkfcbdbieenhaaCropG1
import Derived.Test.YtlkfcbdbieenhaaMem2
import Derived.IntWalk
namespace Go.Proofs.Ytlkfcbdbieenhaa
open Go.RowKit

/-- A grade: 1 surely, 2 possibly, 3 never. -/
def gradeF (d : Int) (x : S3) : Int := if d ≤ x.2.1 then 1 else if x.2.2 < d then 3 else 2
def eG (x : Int) : List Value := [.int .u8 x]
theorem encG : Enc eG 1 := fun x => ⟨rfl, fun u hu => by simp [eG] at hu; subst hu; rfl⟩
theorem elG : Elem Try.prog 66 69 1 1 := Elem.of (z := .int .u8 0) (by kernel_rfl) (by kernel_rfl) rfl (by decide)

/-- What Round returns: an error, or the grades. -/
def roF (l : List S3) (d : Int) : Int :=
  if 60 < l.length then 5 else if l.all okS = false then 2 else if inB d 1 500000 = false then 3 else 0

/-- Round's result. -/
def GivesRound (l : List S3) (d : Int) (w : World) (en : Ending) (w' : World) : Prop :=
  ∃ A n cap, en = .returned (.tuple #[.slice A n cap, .int .i64 (roF l d)]) ∧ Own eG 1 69 w.heap.size w' A n cap (if roF l d = 0 then l.map (gradeF d) else []) ∧ Below w.heap.size w w'

theorem all_at {l : List S3} (h : l.all okS = true) {k : Nat} {x : S3} (hk : l[k]? = some x) : okS x = true := List.all_eq_true.1 h x (List.mem_of_getElem? hk)

set_option maxRecDepth 100000 in
set_option maxHeartbeats 4000000 in
theorem round_any (A : Option Addr) (n cap B : Nat) (l : List S3) (d : Int) (w : World) (h : Sl eIII 3 w B A n l) (hB : B ≤ w.heap.size) (hl : n ≤ 1000000) :
    Calls Try.prog 32 #[.slice A n cap, .int .i64 d] w (GivesRound l d w) := by
  have hlen := h.len
  by_cases h0 : 60 < n
  · have hi : (60 : Int) < n := by omega
    have e : roF l d = 5 := by rw [roF, if_pos (by omega)]
    have E := Lib.hid e
    clear e
    go_enter Try.func32, Try.ntmps32
    go_wp2
    refine bodyPost_ret (v := .tuple #[.slice none 0 0, .int .i64 5]) (by simp [results, Try.results32, go_sem]) rfl ?_
    exact ⟨none, 0, 0, by rw [E.out], by rw [E.out, if_neg (by decide)]; exact Own.nil, Below.refl _ _⟩
  · have hi : decide ((60 : Int) < n) = false := by simp; omega
    have CA := Lib.hid (fun cap W (hb : Below w.heap.size w W) => containsSl_any A n cap B l W (h.below (hb.mono hB)) (Nat.le_trans hB hb.size) hl)
    cases h1 : l.all okS
    · have e : roF l d = 2 := by rw [roF, if_neg (by omega), if_pos h1]
      have E := Lib.hid e
      have H1 := Lib.hid h1
      clear e
      go_enter Try.func32, Try.ntmps32
      go_wp2_with (go_at_call 63; refine (CA.out _ _ (Below.refl _ _)).mono ?_; rintro e w1 ⟨rfl, hb1⟩; simp only [H1.out, Bool.not_false])
      refine bodyPost_ret (v := .tuple #[.slice none 0 0, .int .i64 2]) (by simp [results, Try.results32, go_sem]) rfl ?_
      exact ⟨none, 0, 0, by rw [E.out], by rw [E.out, if_neg (by decide)]; exact Own.nil, hb1⟩
    · have H1 := Lib.hid h1
      cases h2 : inB d 1 500000
      · have e : roF l d = 3 := by rw [roF, if_neg (by omega), if_neg (by simp [h1]), if_pos h2]
        have E := Lib.hid e
        have H2 := Lib.hid h2
        clear e
        go_enter Try.func32, Try.ntmps32
        go_wp2_with (first | (go_at_call 63; refine (CA.out _ _ (Below.refl _ _)).mono ?_; rintro e w1 ⟨rfl, hb1⟩; simp only [H1.out, Bool.not_true]) | (go_at_call 54; refine (isDiameter_any _ _).mono ?_; rintro e w2 ⟨rfl, rfl⟩; simp only [H2.out]))
        refine bodyPost_ret (v := .tuple #[.slice none 0 0, .int .i64 3]) (by simp [results, Try.results32, go_sem]) rfl ?_
        exact ⟨none, 0, 0, by rw [E.out], by rw [E.out, if_neg (by decide)]; exact Own.nil, hb1⟩
      · have e : roF l d = 0 := by rw [roF, if_neg (by omega), if_neg (by simp [h1]), if_neg (by simp [h2])]
        have E := Lib.hid e
        have H2 := Lib.hid h2
        clear e
        have hm : ∀ k : Nat, k < n → k + 1 ≤ maxLen := fun k hk => by unfold maxLen; omega
        go_enter Try.func32, Try.ntmps32
        go_wp2_with (first | (go_at_call 63; refine (CA.out _ _ (Below.refl _ _)).mono ?_; rintro e w1 ⟨rfl, hb1⟩; simp only [H1.out, Bool.not_true]) | (go_at_call 54; refine (isDiameter_any _ _).mono ?_; rintro e w2 ⟨rfl, rfl⟩; simp only [H2.out]))
        go_loopw [7, 25] (fun s i wr => ∃ (k : Nat) (A' : Option Addr) (cap' : Nat), k ≤ n ∧ i = .int .i64 k ∧ s = .slice A' k cap' ∧ Own eG 1 69 w.heap.size wr A' k cap' ((l.take k).map (gradeF d)) ∧ Below w.heap.size w wr) (fun _ i _ => n - (intOf i).toNat)
        case atStart => exact ⟨0, none, 0, Nat.zero_le _, rfl, rfl, Own.nil, hb1⟩
        case round =>
          obtain ⟨k, A', cap', hk, rfl, rfl, ho, hbl⟩ := hrel
          by_cases hlt : k < n
          · obtain ⟨x, hx⟩ := h.get hlt
            obtain ⟨b, off, rfl, hb, c1, c2, c3⟩ := (h.below (hbl.mono hB)).at3 hx
            obtain ⟨x1, x2, x3⟩ := x
            have HX := Lib.hid hx
            clear hx
            have hmk := hm k hlt
            have ho1 := (ho.alloc (.cells #[.int .i64 x1, .int .i64 x2, .int .i64 x3] 40))
            by_cases g1 : d ≤ x2
            · have GR := Lib.hid (show gradeF d (x1, x2, x3) = 1 from if_pos g1)
              have HS := Lib.hid (Sl.new encG (wr.alloc (.cells #[.int .i64 x1, .int .i64 x2, .int .i64 x3] 40)) 69 (wr.heap.size + 1) (by simp) [1] #[.int .u8 1] (by simp [maxLen]) rfl)
              have OW := Lib.hid (ho1.alloc (.cells #[.int .u8 1] 69))
              have HB := Lib.hid ((hbl.alloc hbl.size (.cells #[.int .i64 x1, .int .i64 x2, .int .i64 x3] 40)).alloc (by simp; have := hbl.size; omega) (.cells #[.int .u8 1] 69))
              clear ho ho1 hbl
              go_wp2_with (at_builtin; refine wpList_append_any (base := w.heap.size) encG elG rfl (.tmp 39) (.tmp 40) rfl A' k cap' _ rfl OW.out (wr.heap.size + 1 + 1) (some ⟨wr.heap.size + 1, 0, none⟩) 1 1 [1] rfl HS.out hmk (by omega) HB.out.size ?_; intro A4 cap4 w2 hown hgrow hat; have HO := Lib.hid hown; have HG := Lib.hid hgrow; clear hown hgrow hat)
              go_roundw
              case rel => exact ⟨k + 1, A4, cap4, by omega, by go_num, rfl, by rw [take_snoc HX.out, List.map_append]; simp only [List.map_cons, List.map_nil, GR.out]; exact HO.out, belApp HB.out OW.out HG.out HB.out.size (Nat.le_refl _)⟩
              case measure => simp [intOf]; omega
            · have d1 : decide (d ≤ x2) = false := by simpa using g1
              by_cases g2 : x3 < d
              · have GR := Lib.hid (show gradeF d (x1, x2, x3) = 3 by unfold gradeF; rw [if_neg g1, if_pos g2])
                have HS := Lib.hid (Sl.new encG (wr.alloc (.cells #[.int .i64 x1, .int .i64 x2, .int .i64 x3] 40)) 69 (wr.heap.size + 1) (by simp) [3] #[.int .u8 3] (by simp [maxLen]) rfl)
                have OW := Lib.hid (ho1.alloc (.cells #[.int .u8 3] 69))
                have HB := Lib.hid ((hbl.alloc hbl.size (.cells #[.int .i64 x1, .int .i64 x2, .int .i64 x3] 40)).alloc (by simp; have := hbl.size; omega) (.cells #[.int .u8 3] 69))
                clear ho ho1 hbl
                go_wp2_with (at_builtin; refine wpList_append_any (base := w.heap.size) encG elG rfl (.tmp 48) (.tmp 49) rfl A' k cap' _ rfl OW.out (wr.heap.size + 1 + 1) (some ⟨wr.heap.size + 1, 0, none⟩) 1 1 [3] rfl HS.out hmk (by omega) HB.out.size ?_; intro A4 cap4 w2 hown hgrow hat; have HO := Lib.hid hown; have HG := Lib.hid hgrow; clear hown hgrow hat)
                go_roundw
                case rel => exact ⟨k + 1, A4, cap4, by omega, by go_num, rfl, by rw [take_snoc HX.out, List.map_append]; simp only [List.map_cons, List.map_nil, GR.out]; exact HO.out, belApp HB.out OW.out HG.out HB.out.size (Nat.le_refl _)⟩
                case measure => simp [intOf]; omega
              · have d2 : decide (x3 < d) = false := by simpa using g2
                have GR := Lib.hid (show gradeF d (x1, x2, x3) = 2 by unfold gradeF; rw [if_neg g1, if_neg g2])
                have HS := Lib.hid (Sl.new encG (wr.alloc (.cells #[.int .i64 x1, .int .i64 x2, .int .i64 x3] 40)) 69 (wr.heap.size + 1) (by simp) [2] #[.int .u8 2] (by simp [maxLen]) rfl)
                have OW := Lib.hid (ho1.alloc (.cells #[.int .u8 2] 69))
                have HB := Lib.hid ((hbl.alloc hbl.size (.cells #[.int .i64 x1, .int .i64 x2, .int .i64 x3] 40)).alloc (by simp; have := hbl.size; omega) (.cells #[.int .u8 2] 69))
                clear ho ho1 hbl
                go_wp2_with (at_builtin; refine wpList_append_any (base := w.heap.size) encG elG rfl (.tmp 29) (.tmp 31) rfl A' k cap' _ rfl OW.out (wr.heap.size + 1 + 1) (some ⟨wr.heap.size + 1, 0, none⟩) 1 1 [2] rfl HS.out hmk (by omega) HB.out.size ?_; intro A4 cap4 w2 hown hgrow hat; have HO := Lib.hid hown; have HG := Lib.hid hgrow; clear hown hgrow hat)
                go_roundw
                case rel => exact ⟨k + 1, A4, cap4, by omega, by go_num, rfl, by rw [take_snoc HX.out, List.map_append]; simp only [List.map_cons, List.map_nil, GR.out]; exact HO.out, belApp HB.out OW.out HG.out HB.out.size (Nat.le_refl _)⟩
                case measure => simp [intOf]; omega
          · go_wp2
            refine bodyPost_ret (v := .tuple #[.slice A' k cap', .int .i64 0]) (by simp [results, Try.results32, go_sem]) rfl ?_
            refine ⟨A', k, cap', by rw [E.out], ?_, hbl⟩
            rw [E.out, if_pos rfl]
            have : l.take k = l := List.take_of_length_le (by omega)
            rw [this] at ho
            exact ho
end Go.Proofs.Ytlkfcbdbieenhaa
