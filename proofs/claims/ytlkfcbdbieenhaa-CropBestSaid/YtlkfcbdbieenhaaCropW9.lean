/-
  Walks of chapter 7, ninth part: Value.
-/
import Derived.Test.YtlkfcbdbieenhaaCropW8
namespace Go.Proofs.Ytlkfcbdbieenhaa
open Go.RowKit

set_option maxHeartbeats 1000000 in
theorem bigValue_any (A : Option Addr) (n cap B : Nat) (l : List St) (s1 s2 s3 x1 x2 : Int) (w : World) (h : Sl eII 2 w B A n l) (hB : B ≤ w.heap.size) (hn : n ≤ 1000000) :
    Calls Try.prog 26 #[.slice A n cap, .agg #[.int .i64 s1, .int .i64 s2, .int .i64 s3], .agg #[.int .i64 x1, .int .i64 x2]] w fun e w' => e = .returned (.tuple #[.int .i64 (totalF l s1 s2 s3 [(x1, x2)]).1, .int .i64 (totalF l s1 s2 s3 [(x1, x2)]).2]) ∧ Below w.heap.size w w' := by
  have b0 : Below w.heap.size w ((w.alloc (.cells #[.int .i64 s1, .int .i64 s2, .int .i64 s3] 24)).alloc (.cells #[.int .i64 x1, .int .i64 x2] 49)) := ba (ba (Below.refl _ _))
  have hs := Sl.new enc2 ((w.alloc (.cells #[.int .i64 s1, .int .i64 s2, .int .i64 s3] 24)).alloc (.cells #[.int .i64 x1, .int .i64 x2] 49)) 49 (w.heap.size + 1 + 1) (by simp) [(x1, x2)] #[.int .i64 x1, .int .i64 x2] (by simp [maxLen]) rfl
  have b1 := ba (o := .cells #[.int .i64 x1, .int .i64 x2] 49) b0
  have T := Lib.hid (bigTotal_any A n cap B l s1 s2 s3 (some ⟨w.heap.size + 1 + 1, 0, none⟩) 1 1 (w.heap.size + 1 + 1 + 1) [(x1, x2)] _ (h.below (b1.mono hB)) (Nat.le_trans hB b1.size) hn hs (by simp) (by omega))
  have B1 := Lib.hid b1
  clear b0 b1 hs
  go_enter Try.func26, Try.ntmps26
  go_wp2_with (go_at_call 25; refine T.out.mono ?_; rintro e w1 ⟨rfl, hb1⟩)
  go_ret2
  exact ⟨rfl, B1.out.trans (hb1.mono B1.out.size)⟩
end Go.Proofs.Ytlkfcbdbieenhaa
