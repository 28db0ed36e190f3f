import Derived.Test.YtgjokhodccacoaaDoorSRecG5
set_option linter.unusedSimpArgs false
set_option linter.unusedVariables false
namespace Go.Vm
open Go Go.RowKit
end Go.Vm
namespace Go.Proofs.YtgjokhodccacoaaDoor
open Go.RowKit Go.Vm
set_option maxRecDepth 100000
abbrev eF3 (x:Int×Int×Int):List Value:=[.int .i64 x.1,.int .i64 x.2.1,.int .i64 x.2.2]
abbrev eR2 (x:Int×Int):List Value:=[.int .i64 x.1,.int .i64 x.2]
instance flF3:FlatE eF3 3:=⟨fun _=>rfl,fun _=>rfl,fun _=>rfl⟩
instance flR2:FlatE eR2 2:=⟨fun _=>rfl,fun _=>rfl,fun _=>rfl⟩
theorem getR_ok {xs : List Int} {k : Nat} (hl : xs.length ≤ 30000) (hk : k ≤ xs.length) (he : (getR xs k).2.2.2 = 0) :
    ∃ nx:Nat,(getR xs k).2.2.1 = nx∧k + 4≤nx∧nx≤xs.length∧1≤(getR xs k).1∧(getR xs k).1≤250:=by
 have e0:getR xs k = match frF xs k with
  | .ok kd a m nx=>(kd,sub xs a m,(nx:Int),0)
  | .err e _=>(0,[],0,e):=by
  unfold getR
  rw [if_neg (by omega),if_neg (by omega),Int.toNat_natCast]
  rfl
 rw [e0] at he ⊢
 cases hr:frF xs k with
 | ok kd a m nx =>
  obtain ⟨b1,b2,b3,b4,b5,b6,b7⟩:=frF_ok hr
  refine ⟨nx,rfl,by omega,b3,b5,b6⟩
 | err e nx =>
  rw [hr] at he
  exact absurd he (frF_e hr)
structure Sc where
 at_:Nat
 since:Nat
 found:List (Int×Int×Int)
 lost:List (Int×Int)
abbrev slc (s:Value):Option AObj:=some (.cells ⟨[s],1,false⟩)
section
variable {src rF:Option AObj} {T:List (Option AObj)} {l:List (Int×Int)} {s a:Nat}
end
end Go.Proofs.YtgjokhodccacoaaDoor
set_option linter.unusedSimpArgs false
set_option linter.unusedVariables false
namespace Go.Proofs.YtgjokhodccacoaaDoor
open Go.RowKit Go.Vm
set_option maxRecDepth 100000
end Go.Proofs.YtgjokhodccacoaaDoor
set_option linter.unusedSimpArgs false
set_option linter.unusedVariables false
namespace Go.Proofs.YtgjokhodccacoaaDoor
open Go.RowKit Go.Vm
set_option maxRecDepth 100000
section
variable {n c k sz:Nat} {op:Bool} {xs:List Int} {h:AH}
end
end Go.Proofs.YtgjokhodccacoaaDoor
