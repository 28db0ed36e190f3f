import Derived.Test.YtgjokhodccacoaaDoorSRecQ0
import Derived.Test.YtgjokhodccacoaaDoorSMq
import Derived.RecoverIn
import Derived.Lib.ByteType
set_option linter.unusedSimpArgs false
set_option linter.unusedVariables false
namespace Go.Vm
open Go Go.RowKit
section
variable {P:Program} {w:Bool} {t el:TypeId} {f:TypeInfo} {s d e k n c sz o:Nat} {l:Fr} {h:AH} {K:Value→AH→Prop} {op:Bool} {xs:List Int}
theorem gen_fromO {i : Nat} {x : Int} (hu : P.underlying t = some (.slice el)) (hi : P.info? el = some f) (hsz : f.size = 1) (hl : lk l s = some (.slice (some ⟨k, 0, none⟩) n openB)) (h1 : lk l d = some (.int .i64 x)) (hx : x = i) (hn : i < n ∨ i = 0) (q : K (.slice (some ⟨k, i, none⟩) (n - i) (openB + i)) h) :
    iStep P w (.gen (.slice t (.tmp s) (some (.tmp d)) none none)) l h K:=by
 subst hx
 refine ⟨_,_,?_,q⟩
 have e1:aEnv (trOf l) (.tmp s) = some (.slice (some ⟨k,0,none⟩) n openB):=by simp only [aEnv,trOf_get,hl]
 have e2:aOptV (aEnv (trOf l)) (some (.tmp d)) = some (some (.int .i64 i)):=by simp only [aOptV,aEnv,trOf_get,h1]
 have e4:aOptV (aEnv (trOf l)) none = some none:=rfl
 have n1:natOf (some (.int .i64 (i:Int))) 0 = some i:=natOf_n
 have n2:natOf none n = some n:=rfl
 have n3:natOf none openB = some openB:=rfl
 have hv:aSlice P t (.slice (some ⟨k,0,none⟩) n openB) (some (.int .i64 i)) none none = some (.slice (some ⟨k,i,none⟩) (n - i) (openB + i)):=by
  simp only [aSlice,hu,hi,n1,n2,n3,hsz]
  rw [if_neg (Nat.lt_irrefl _),if_neg (by simp),if_pos ⟨by omega,Nat.le_refl _,by omega⟩]
  simp only [Addr.add,Nat.zero_add,Nat.mul_one]
  split
  ·rename_i hz; rw [hz]
  ·rfl
 simp only [aOp,e1,e2,e4,hv]
end
end Go.Vm
set_option linter.unusedSimpArgs false
set_option linter.unusedVariables false
namespace Go.Proofs.YtgjokhodccacoaaDoor
open Go Go.RowKit Go.Vm
set_option maxRecDepth 100000
end Go.Proofs.YtgjokhodccacoaaDoor
set_option linter.unusedSimpArgs false
set_option linter.unusedVariables false
namespace Go.Vm
open Go Go.RowKit
theorem set_id {α:Type} {L:List α} {k:Nat} {x:α} (h:L[k]? = some x):L.set k x = L:=by
 apply List.ext_getElem?
 intro j
 rw [List.getElem?_set]
 split
 ·rename_i e
  subst e
  rw [if_pos (List.getElem?_eq_some_iff.1 h).1,h]
 ·rfl
end Go.Vm
namespace Go.Proofs.YtgjokhodccacoaaDoor
open Go.RowKit Go.Vm
set_option maxRecDepth 100000
section
variable {wl kb:Nat} {L:List (Option AObj)}
end
end Go.Proofs.YtgjokhodccacoaaDoor
