import Derived.Test.YtgjokhodccacoaaDoorSRecG5
import Derived.Test.YtgjokhodccacoaaDoorSRecP3
import Derived.Test.YtgjokhodccacoaaDoorSRecH0
import Derived.Test.YtgjokhodccacoaaDoorSRecF2
set_option linter.unusedSimpArgs false
set_option linter.unusedVariables false
namespace Go.Vm
open Go Go.RowKit
theorem gen_eqnil0 {P : Program} {w : Bool} {t u : TypeId} {s : Nat} {l : Fr} {h : AH} {K : Value → AH → Prop} (hl : lk l s = some (.slice none 0 0)) (e : pureRun P (do Go.eqGuard .eql t (.tmp s) (.const (.slice none 0 0)) (.slice none 0 0) (.slice none 0 0); Go.binOp .eql t (.slice none 0 0) (.slice none 0 0)) = some (.bool true)) (q : K (.bool true) h) :
    iStep P w (.gen (.binOp .eql t (.tmp s) (.const (.slice none 0 0)) u)) l h K:=by
 refine ⟨_,_,?_,q⟩
 have e1:aEnv (trOf l) (.tmp s) = some (.slice none 0 0):=by simp only [aEnv,trOf_get,hl]
 have e2:aEnv (trOf l) (.const (.slice none 0 0)) = some (.slice none 0 0):=rfl
 exact op_bin e1 e2 rfl rfl rfl e
theorem appK_0' {h:AH} {sz bytes:Nat} {a a2:Option Addr} {c2:Nat} {K:Value→AH→Prop}:appK h sz bytes (.slice a 0 0) (.slice a2 0 c2) K = K (.slice a 0 0) h:=by
 unfold appK
 have e:sCells h sz (.slice a2 0 c2) = some []:=by
  cases a2 with
  | none=>rfl
  | some x =>
   obtain ⟨b,o,s⟩:=x
   cases s <;> rfl
 rw [e]
 simp only [slen_slice]
 exact propext ⟨fun h=>(h.1 trivial).2,fun h=>⟨fun _=>⟨.inl ⟨by unfold openB; omega,Nat.le_refl _⟩,h⟩,fun e=>absurd rfl e⟩⟩
theorem appK_zo' {h:AH} {sz bytes k o n:Nat} {a2:Option Addr} {c2:Nat} {K:Value→AH→Prop}:appK h sz bytes (.slice (some ⟨k,o,none⟩) n openB) (.slice a2 0 c2) K = K (.slice (some ⟨k,o,none⟩) n openB) h:=by
 unfold appK
 have e:sCells h sz (.slice a2 0 c2) = some []:=by
  cases a2 with
  | none=>rfl
  | some x =>
   obtain ⟨b,o,s⟩:=x
   cases s <;> rfl
 rw [e]
 simp only [slen_slice]
 exact propext ⟨fun h=>(h.1 trivial).2,fun h=>⟨fun _=>⟨.inr ⟨Nat.le_refl _,rfl⟩,h⟩,fun e=>absurd rfl e⟩⟩
end Go.Vm
namespace Go.Proofs.YtgjokhodccacoaaDoor
open Go.RowKit Go.Vm
set_option maxRecDepth 100000
theorem clone_ec:Fc Tryd.prog 69 [.slice (some ⟨1,0,none⟩) 0 openB] (Hp 2 [none,none]) (sO 2 0) ((Hp 2 [none,none]).news [.cells ⟨[],1,true⟩]):=by
 refine Fc.introR fn69 (by simp) rfl rfl ?_; simp only [argF]
 refine ITri.seq ?_
 refine ITri.reg pok ?_; simp -implicitDefEqProofs (disch:=first|decide|exact of_eq_true (eq_true rfl)|omega|assumption) only [↓vcD,vcE,↓vcG,vcF,evs,evP,evB,intsOf,fillC,Value.cells,pt,Value.oneCell',reduceIte,reduceCtorEq,Nat.reduceEqDiff,Nat.reduceAdd,Nat.reduceMul,Nat.reduceLT,Nat.reduceBEq,Nat.reduceLeDiff,Nat.reduceSub]
 refine ITri.nilsplit (d:=0) (k:=1) (l1:=[(0,.slice none 0 0)]) (l2:=fun s=>[(0,.slice (some ⟨2,0,s⟩) 0 (openB + 1))]) rfl (fun e v h=>?_) (fun s e v h=>?_) ?_ (fun s=>?_)
 ·show _∨_
  have h:(if _ = e then some _ else none) = some v:=h
  split at h
  ·rename_i he
   injection h with h
   exact .inl ⟨he.symm,h.symm⟩
  ·cases h
 ·show _∨_
  have h:(if _ = e then some _ else none) = some v:=h
  split at h
  ·rename_i he
   injection h with h
   exact .inl ⟨he.symm,h.symm⟩
  ·cases h
 ·refine ITri.seq ?_
  refine ITri.seq ?_
  refine ITri.reg pok ?_; simp -implicitDefEqProofs (disch:=first|decide|exact of_eq_true (eq_true rfl)|omega|assumption) only [↓vcD,vcE,↓vcG,vcF,evs,evP,evB,intsOf,fillC,Value.cells,pt,Value.oneCell',reduceIte,reduceCtorEq,Nat.reduceEqDiff,Nat.reduceAdd,Nat.reduceMul,Nat.reduceLT,Nat.reduceBEq,Nat.reduceLeDiff,Nat.reduceSub]
  refine gen_eqnil0 rfl (by kernel_rfl) ?_
  try simp -implicitDefEqProofs (disch:=first|decide|exact of_eq_true (eq_true rfl)|omega|assumption) only [↓vcD,vcE,↓vcG,vcF,evs,evP,evB,intsOf,fillC,Value.cells,pt,Value.oneCell',reduceIte,reduceCtorEq,Nat.reduceEqDiff,Nat.reduceAdd,Nat.reduceMul,Nat.reduceLT,Nat.reduceBEq,Nat.reduceLeDiff,Nat.reduceSub]
  refine ITri.cond (v:=true) rfl (fun _=>?_) (fun h=>by cases h)
  refine ITri.seq ?_
  refine ITri.reg pok ?_; simp -implicitDefEqProofs (disch:=first|decide|exact of_eq_true (eq_true rfl)|omega|assumption) only [↓vcD,vcE,↓vcG,vcF,evs,evP,evB,intsOf,fillC,Value.cells,pt,Value.oneCell',reduceIte,reduceCtorEq,Nat.reduceEqDiff,Nat.reduceAdd,Nat.reduceMul,Nat.reduceLT,Nat.reduceBEq,Nat.reduceLeDiff,Nat.reduceSub]
  refine ITri.ret ?_
  exact end_nil (mk:=fun s=>s) mvI (resF_tmp rfl resF_nil) rfl
 ·refine ITri.seq ?_
  refine ITri.seq ?_
  refine ITri.reg pok ?_; simp -implicitDefEqProofs (disch:=first|decide|exact of_eq_true (eq_true rfl)|omega|assumption) only [↓vcD,vcE,↓vcG,vcF,evs,evP,evB,intsOf,fillC,Value.cells,pt,Value.oneCell',reduceIte,reduceCtorEq,Nat.reduceEqDiff,Nat.reduceAdd,Nat.reduceMul,Nat.reduceLT,Nat.reduceBEq,Nat.reduceLeDiff,Nat.reduceSub]
  refine gen_eqnilO u_slB rfl rfl (Nat.lt_succ_self _) ?_
  try simp -implicitDefEqProofs (disch:=first|decide|exact of_eq_true (eq_true rfl)|omega|assumption) only [↓vcD,vcE,↓vcG,vcF,evs,evP,evB,intsOf,fillC,Value.cells,pt,Value.oneCell',reduceIte,reduceCtorEq,Nat.reduceEqDiff,Nat.reduceAdd,Nat.reduceMul,Nat.reduceLT,Nat.reduceBEq,Nat.reduceLeDiff,Nat.reduceSub]
  refine ITri.cond (v:=false) rfl (fun h=>by cases h) (fun _=>?_); refine ITri.skip ?_; simp only [SeqQ_normal,BlkQ_normal]
  refine ITri.seq ?_
  refine ITri.reg pok ?_; simp -implicitDefEqProofs (disch:=first|decide|exact of_eq_true (eq_true rfl)|omega|assumption) only [appK_0', ↓vcD,vcE,↓vcG,vcF,evs,evP,evB,intsOf,fillC,Value.cells,pt,Value.oneCell',reduceIte,reduceCtorEq,Nat.reduceEqDiff,Nat.reduceAdd,Nat.reduceMul,Nat.reduceLT,Nat.reduceBEq,Nat.reduceLeDiff,Nat.reduceSub]
  refine ITri.ret ?_
  exact end_room (mk:=fun s=>s) (k:=3) 0 mvI (by decide) (by decide) (by decide) rfl rfl (by decide) rfl (resF_tmp rfl resF_nil) rfl
theorem clone_e {h:AH} {k:Nat} (h0:h.sees 0 = true) (hk:h.sees k = true):Fc Tryd.prog 69 [.slice (some ⟨k,0,none⟩) 0 openB] h (sO h.next 0) (h.news [.cells ⟨[],1,true⟩]):=by
 refine Fc.frameL (Lc:=[none,none]) (os:=[.cells ⟨[],1,true⟩]) clone_ec [(0,0,false),(k,0,false)] rfl ⟨⟨h0,fun o e=>by cases e⟩,⟨hk,fun o e=>by cases e⟩,trivial⟩ ?_ ?_ (fun o ho=>?_) ?_ ?_ rfl
 ·exact ⟨⟨by simp,trivial⟩,trivial⟩
 ·exact ⟨by simp,trivial⟩
 ·simp only [List.mem_singleton] at ho
  subst ho
  trivial
 ·rfl
 ·rfl
end Go.Proofs.YtgjokhodccacoaaDoor
