/-
  Walks of chapter 7, twelfth part: the reference's Allowed.
-/
import Derived.Test.YtlkfcbdbieenhaaCropWB
namespace Go.Proofs.Ytlkfcbdbieenhaa
open Go.RowKit

/-- Whether a block is allowed, as the document says it. -/
def alF (l : List St) (s1 s2 f t : Int) : Bool := decide (0 ≤ f) && decide (t ≤ lenF l) && decide (f < t) && inB (t - f) s1 s2 && decide (0 ≤ (woF f t l).2)

set_option maxHeartbeats 2000000 in
theorem refAllowed_any (A : Option Addr) (n cap B : Nat) (l : List St) (s1 s2 s3 f t : Int) (w : World) (h : Sl eII 2 w B A n l) (hB : B ≤ w.heap.size) (hn : n ≤ 1000) (hg : l.any badSt = false) (hlf : lenF l ≤ 3000000) :
    Calls Try.prog 27 #[.slice A n cap, .agg #[.int .i64 s1, .int .i64 s2, .int .i64 s3], .agg #[.int .i64 f, .int .i64 t]] w fun e w' => e = .returned (.bool (alF l s1 s2 f t)) ∧ Below w.heap.size w w' := by
  have b0 : Below w.heap.size w ((w.alloc (.cells #[.int .i64 s1, .int .i64 s2, .int .i64 s3] 24)).alloc (.cells #[.int .i64 f, .int .i64 t] 49)) := ba (ba (Below.refl _ _))
  have T := Lib.hid (fun W (hb : Below w.heap.size w W) => refWorth_any A n cap B l f t W (h.below (hb.mono hB)) hn hg)
  have LL := Lib.hid (fun W (hb : Below w.heap.size w W) => refLength_any A n cap B l W (h.below (hb.mono hB)) hn hg)
  have B0 := Lib.hid b0
  clear b0
  by_cases q1 : 0 ≤ f
  · by_cases q2 : t ≤ lenF l
    · by_cases q3 : f < t
      · cases q4 : inB (t - f) s1 s2
        · have Q4 := Lib.hid q4
          have R4 := Lib.hid (fun W => q4 ▸ ref_in (t - f) s1 s2 W)
          go_enter Try.func27, Try.ntmps27
          go_wp2
          go_quiet (first | (go_at_call 13; exact Calls.quiet_of_same ((LL.out _ (below_drewN B0.out _)).mono fun _ _ hx => ⟨hx.1, hx.2.symm⟩)) | (go_at_call 47; exact Calls.quiet_of_same ((R4.out _).mono fun _ _ hx => ⟨hx.1, hx.2.symm⟩)) | (go_at_call 61; exact Calls.quiet_of_same ((T.out _ (below_drewN B0.out _)).mono fun _ _ hx => ⟨hx.1, hx.2.symm⟩)))
          go_wp2
          go_ret
          exact ⟨ret_bool (by simp [alF, q1, q2, q3, Q4.out]), below_drewN B0.out _⟩
        · have Q4 := Lib.hid q4
          have R4 := Lib.hid (fun W => q4 ▸ ref_in (t - f) s1 s2 W)
          go_enter Try.func27, Try.ntmps27
          go_wp2
          go_quiet (first | (go_at_call 13; exact Calls.quiet_of_same ((LL.out _ (below_drewN B0.out _)).mono fun _ _ hx => ⟨hx.1, hx.2.symm⟩)) | (go_at_call 47; exact Calls.quiet_of_same ((R4.out _).mono fun _ _ hx => ⟨hx.1, hx.2.symm⟩)) | (go_at_call 61; exact Calls.quiet_of_same ((T.out _ (below_drewN B0.out _)).mono fun _ _ hx => ⟨hx.1, hx.2.symm⟩)))
          go_wp2
          go_ret
          exact ⟨ret_bool (by simp [alF, q1, q2, q3, Q4.out]), below_drewN B0.out _⟩
      · have q3' : decide (f < t) = false := by simpa using q3
        go_enter Try.func27, Try.ntmps27
        go_wp2
        go_quiet (first | (go_at_call 13; exact Calls.quiet_of_same ((LL.out _ (below_drewN B0.out _)).mono fun _ _ hx => ⟨hx.1, hx.2.symm⟩)) | (go_at_call 47; exact Calls.quiet_of_same ((ref_in _ _ _ _).mono fun _ _ hx => ⟨hx.1, hx.2.symm⟩)) | (go_at_call 61; exact Calls.quiet_of_same ((T.out _ (below_drewN B0.out _)).mono fun _ _ hx => ⟨hx.1, hx.2.symm⟩)))
        go_wp2
        go_ret
        exact ⟨ret_bool (by simp [alF, q1, q2, q3']), below_drewN B0.out _⟩
    · have q2' : decide (t ≤ lenF l) = false := by simpa using q2
      go_enter Try.func27, Try.ntmps27
      go_wp2
      go_quiet (first | (go_at_call 13; exact Calls.quiet_of_same ((LL.out _ (below_drewN B0.out _)).mono fun _ _ hx => ⟨hx.1, hx.2.symm⟩)) | (go_at_call 47; exact Calls.quiet_of_same ((ref_in _ _ _ _).mono fun _ _ hx => ⟨hx.1, hx.2.symm⟩)) | (go_at_call 61; exact Calls.quiet_of_same ((T.out _ (below_drewN B0.out _)).mono fun _ _ hx => ⟨hx.1, hx.2.symm⟩)))
      go_wp2
      go_ret
      exact ⟨ret_bool (by simp [alF, q1, q2']), below_drewN B0.out _⟩
  · have q1' : decide (0 ≤ f) = false := by simpa using q1
    go_enter Try.func27, Try.ntmps27
    go_wp2
    go_quiet (fail)
    go_wp2
    go_ret
    exact ⟨ret_bool (by simp [alF, q1']), below_drewN B0.out _⟩
end Go.Proofs.Ytlkfcbdbieenhaa
