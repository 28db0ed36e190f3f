import Derived.Test.YtgjokhodccacoaaDoorRows
import Derived.Test.YtgjokhodccacoaaDoorSMt
import Derived.ProofKit
import Derived.LaidMore
import Derived.OpenShut
import Derived.Stop.Joined
import Derived.KernelRfl
set_option linter.unusedSimpArgs false
set_option linter.unusedVariables false
namespace Go.Proofs.YtgjokhodccacoaaDoor
open Go.ChangeShapes Go.WideShapes Go.ChangeAt Go.RowKit Go.Vm
def laidR:List (String×DataW Unit):=[("bytes.ErrTooLarge",Rows.laid_bytes_ErrTooLarge),("boule/record.turns",Rows.laid_boule_record_turns)]
theorem g_turns:Tryd.prog.globalNamed "boule/record.turns" = some 0:=by kernel_rfl
theorem t_turns:(Tryd.prog.globals[0]?).map (·.type) = some 104:=by kernel_rfl
theorem u_turns:Tryd.prog.underlying 104 = some (.array 16 3):=by kernel_rfl
theorem u_intL:Tryd.prog.underlying 3 = some (.int .i64):=by kernel_rfl
theorem door_met (os:Os) (args:Array Value):laidMetH Tryd.prog laidR ((World.doorLaid Tryd.prog 400 os).forCall (fun _ _=>0) ⟨#[],args,[]⟩).memory :=
 laidMetH_of_parts3 (fuel:=8) (laidMet_of_run' 8 (by kernel_rfl) (by kernel_rfl)) (by kernel_rfl) (by kernel_rfl)
set_option maxRecDepth 100000 in
theorem tab_of_laid {W:World} (h:laidMetH Tryd.prog laidR W):Tab W:=by
 rw [MakeChecks.laidMetH_plain _ _ _ (by kernel_rfl)] at h
 obtain ⟨ps,⟨g0,t0,cs0,f0,p0,q0,hg0,ht0,hv0,hd0,⟨g1,t1,cs1,f1,p1,q1,hg1,ht1,hv1,hd1,_,_⟩,_⟩,_,_⟩:=h
 obtain rfl:=Option.some.inj (g_turns.symm.trans hg1)
 obtain rfl:=Option.some.inj (t_turns.symm.trans ht1)
 obtain ⟨xs,m1,rfl,hx1,hlen,hn3,hel⟩:=DataW.trod_array u_turns hd1
 have c3:Tryd.prog.cellsOf 3 = 1:=by kernel_rfl
 have hx:=(Prod.mk.injEq _ _ _ _).mp hx1
 have hdat:xs.map (·.1) = turnsL.map fun v=>DataW.lit (.int .i64 v):=by
  have h1:=hx.1
  injection h1 with h1
  exact h1.symm
 intro j v hj
 have hj16:j < 16:=(List.getElem?_eq_some_iff.1 hj).1
 have h2:=hel j hj16
 rw [c3,Nat.mul_one] at h2
 have h3:(xs.map (·.1))[j]? = some (DataW.lit (.int .i64 v)):=by rw [hdat,List.getElem?_map,hj]; rfl
 rw [List.getElem?_map] at h3
 obtain ⟨x,hx2,hx3⟩:=Option.map_eq_some_iff.1 h3
 rw [hx2] at h2
 obtain ⟨k,e1,e2,_⟩:=DataW.trod_int u_intL h2
 have hk:k = v:=by
  rw [e2] at hx3
  simpa using hx3
 subst hk
 have h4:=World.var?_cell hg1 hv1 j
 have h5:(cs1.toList.drop j)[0]? = some (Value.int .i64 k):=by
  have:=congrArg (·[0]?) e1
  simpa using this
 rw [List.getElem?_drop,Nat.add_zero,Array.getElem?_toList] at h5
 rw [h5] at h4
 exact h4
end Go.Proofs.YtgjokhodccacoaaDoor
