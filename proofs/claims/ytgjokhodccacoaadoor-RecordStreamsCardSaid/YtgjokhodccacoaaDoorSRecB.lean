import Derived.Test.YtgjokhodccacoaaDoorSRecA
set_option linter.unusedSimpArgs false
set_option linter.unusedVariables false
namespace Go.Vm
open Go Go.RowKit
structure MvV (mk:Value→Value):Prop where
 mv : ∀ σ ξ s,Vm.mv σ ξ (mk s) = mk (Vm.mv σ ξ s)
 ok : ∀ ξ B s,okM ξ B s→okM ξ B (mk s)
section
variable {P:Program} {rs:List ResultVar} {l:Fr} {L:List (Option AObj)} {k n b sz:Nat} {cs:List Value} {vs:List Value} {mk:Value→Value} {op:Bool}
theorem end_mk (hmk : MvV mk) (hk : b ≤ k) (hno : noAddrL cs = true) (hL : (L[k]?).join = some (.cells ⟨cs, sz, true⟩)) (hr : resF P l (Hp b L) rs = some vs) (hv : packV vs = mk (.slice (some ⟨k, 0, none⟩) n openB)) :
    EndR P rs b [.cells ⟨cs,sz,true⟩] (mk (.slice (some ⟨b,0,none⟩) n openB)) .ret l [] (Hp b L):=by
 refine ⟨by simp,rfl,vs,[k],[],hr,rfl,by simp,by simpa using hk,(fun p hp=>by cases hp),?_,hmk.ok _ _ _ ?_,fun i o2 h=>.inr ?_⟩
 ·rw [hv,hmk.mv]
  congr 1
  show _ = mvS .same ⟨(fun k'=>if k' < b then k' else [k].getD (k' - b) 0) b,0,none⟩ n openB
  simp [mvS]
 ·exact ⟨by simp,trivial⟩
 ·match i,h with
  | 0,h =>
   cases h
   refine ⟨(by intro e; cases e),_,(by show (Hp b L).get k = _; rw [Hp_get]; exact hL),?_⟩
   exact ⟨(mvL_noAddr _ _ _ hno).symm,okML_noAddr _ _ _ hno,fun e=>e,fun e=>⟨e,rfl⟩⟩
theorem end_room (C : Nat) (hmk : MvV mk) (hk : b ≤ k) (hC : C ≤ 16777216) (hnC : n ≤ C) (hno : noAddrL cs = true) (hL : (L[k]?).join = some (.cells ⟨cs, sz, op⟩)) (hsz : sz ≠ 0) (hl : C * sz = cs.length) (hr : resF P l (Hp b L) rs = some vs) (hv : packV vs = mk (.slice (some ⟨k, 0, none⟩) n C)) :
    EndR P rs b [.cells ⟨cs,sz,true⟩] (mk (.slice (some ⟨b,0,none⟩) n openB)) .ret l [] (Hp b L):=by
 have x1:xiL [(b,Xi.room C)] b = .room C:=by simp [xiL]
 have x0:xiL [(b,Xi.room C)] (b + 0) = .room C:=x1
 have ho:C < openB:=by unfold openB; omega
 refine ⟨by simp,rfl,vs,[k],[(b,.room C)],hr,rfl,by simp,by simpa using hk,(fun p hp=>by simp at hp; subst hp; exact ⟨Nat.le_refl _,roomOK C hC⟩),?_,hmk.ok _ _ _ ?_,fun i o2 h=>.inr ?_⟩
 ·rw [hv,hmk.mv]
  congr 1
  show _ = mvS (xiL [(b,.room C)] b) ⟨(fun k'=>if k' < b then k' else [k].getD (k' - b) 0) b,0,none⟩ n openB
  rw [x1]
  simp [mvS]
 ·refine ⟨by simp,?_⟩
  show okS (xiL [(b,.room C)] b) n openB
  rw [x1]
  intro _
  exact ⟨by omega,by omega⟩
 ·match i,h with
  | 0,h =>
   cases h
   rw [x0]
   refine ⟨(by intro e; cases e),_,(by show (Hp b L).get k = _; rw [Hp_get]; exact hL),?_⟩
   refine ⟨(mvL_noAddr _ _ _ hno).symm,okML_noAddr _ _ _ hno,fun e=>e,fun e=>?_⟩
   rw [x0]
   exact ⟨Nat.le_of_eq hl,fun z1=>by simp only at z1 ⊢; rw [z1] at hl; omega⟩
theorem end_nil (hmk : MvV mk) (hr : resF P l (Hp b L) rs = some vs) (hv : packV vs = mk (.slice none 0 0)) :
    EndR P rs b [.cells ⟨[],sz,true⟩] (mk (.slice (some ⟨b,0,none⟩) 0 openB)) .ret l [] (Hp b L):=by
 refine ⟨by simp,rfl,vs,[b],[(b,.nil)],hr,rfl,by simp,by simp,(fun p hp=>by simp at hp; subst hp; exact ⟨Nat.le_refl _,trivial⟩),?_,hmk.ok _ _ _ ?_,fun i o2 h=>.inl ?_⟩
 ·rw [hv,hmk.mv]
  congr 1
  show _ = mvS (xiL [(b,.nil)] b) _ 0 openB
  simp [mvS,xiL]
 ·refine ⟨by show b < b + 1; omega,?_⟩
  show okS (xiL [(b,.nil)] b) 0 openB
  simp [xiL,okS]
 ·match i,h with
  | 0,h =>
   cases h
   exact ⟨by simp [xiL],rfl⟩
end
end Go.Vm
namespace Go.Proofs.YtgjokhodccacoaaDoor
open Go.RowKit Go.Vm
set_option maxRecDepth 100000
end Go.Proofs.YtgjokhodccacoaaDoor
