import Derived.Test.YtgjokhodccacoaaDoorSRecG1
set_option linter.unusedSimpArgs false
set_option linter.unusedVariables false
namespace Go.Vm
open Go Go.RowKit
section
variable {P : Program} {w : Bool} {t el : TypeId} {f : TypeInfo} {s d e g k n a m c : Nat} {l : Fr} {h : AH} {K : Value → AH → Prop}
theorem natOf_n {i d : Nat} : natOf (some (.int .i64 (i : Int))) d = some i := by simp [natOf]
end
end Go.Vm
namespace Go.Proofs.YtgjokhodccacoaaDoor
open Go.RowKit Go.Vm
set_option maxRecDepth 100000
theorem u_slB : Tryd.prog.underlying 22 = some (.slice 5) := by kernel_rfl
theorem sz_u8 : ((Tryd.prog.info? 5).get rfl).size = 1 := by kernel_rfl
def sub (xs : List Int) (a m : Nat) : List Int := (xs.drop a).take m
inductive FR where
 | ok (kd : Int) (a m nx : Nat)
 | err (e : Int) (nx : Nat)
section
variable {wl kr ks n at_ sz : Nat} {op : Bool} {L : List (Option AObj)} {cs : List Value} {xs : List Int}
end
end Go.Proofs.YtgjokhodccacoaaDoor
