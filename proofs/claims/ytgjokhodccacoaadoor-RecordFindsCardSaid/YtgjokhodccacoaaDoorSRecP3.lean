import Derived.Test.YtgjokhodccacoaaDoorSRecP1
set_option linter.unusedSimpArgs false
set_option linter.unusedVariables false
namespace Go.Vm
open Go Go.RowKit
end Go.Vm
namespace Go.Proofs.YtgjokhodccacoaaDoor
open Go.RowKit Go.Vm
set_option maxRecDepth 100000
theorem mvP (e:Int):MvV fun s=>.tuple #[s,.int .i64 e]:=⟨fun _ _ _=>rfl,fun _ _ _ h=>⟨h,trivial,trivial⟩⟩
theorem groups_len {N:Nat} (h:N < 9223372036854775808):(groups N).length≤9∧0 < (groups N).length:=by
 have key : ∀ k m acc,m≤k→GrJ N (m,acc)→(groups N).length≤9∧0 < (groups N).length:=by
  intro k
  induction k with
  | zero =>
   intro m acc hk J
   obtain rfl:m = 0:=by omega
   have:=gr_end J
   obtain ⟨j1,j2,j3,_⟩:=J
   rw [← this]
   exact ⟨j2,j3⟩
  | succ k ih =>
   intro m acc hk J
   by_cases h0:m = 0
   ·subst h0
    have:=gr_end J
    obtain ⟨j1,j2,j3,_⟩:=J
    rw [← this]
    exact ⟨j2,j3⟩
   ·exact ih _ _ (by omega) (gr_step J h0).1
 exact key _ _ _ (Nat.le_refl _) (gr_begin h)
end Go.Proofs.YtgjokhodccacoaaDoor
set_option linter.unusedSimpArgs false
set_option linter.unusedVariables false
namespace Go.Proofs.YtgjokhodccacoaaDoor
open Go.RowKit Go.Vm
set_option maxRecDepth 100000
section
variable {h:AH} (n:Int)
end
end Go.Proofs.YtgjokhodccacoaaDoor
