import Derived.Test.YtgjokhodccacoaaDoorSRecH3
import Derived.Test.YtgjokhodccacoaaDoorSRecG5
import Derived.Test.YtgjokhodccacoaaDoorSRecH6
set_option linter.unusedSimpArgs false
set_option linter.unusedVariables false
namespace Go.Vm
open Go Go.RowKit
section
variable {P:Program} {w:Bool} {t el:TypeId} {f:TypeInfo} {s d e k n a c o:Nat} {l:Fr} {h:AH} {K:Value→AH→Prop}
theorem gen_2y {x y : Int} (hu : P.underlying t = some (.slice el)) (hi : P.info? el = some f) (hl : lk l s = some (.slice (some ⟨k, o, none⟩) n c)) (hc : openB ≤ c) (h1 : lk l d = some (.int .i64 x)) (h2 : lk l e = some (.int .i64 y)) (hx : x = a) (hy : y = a) (hn : a ≤ n) (h0 : a ≠ 0) (q : K (.slice (some ⟨h.next, 0, none⟩) 0 openB) h.bump) :
    iStep P w (.gen (.slice t (.tmp s) (some (.tmp d)) (some (.tmp e)) none)) l h K:=by
 subst hx hy
 refine ⟨_,_,?_,q⟩
 have e1:aEnv (trOf l) (.tmp s) = some (.slice (some ⟨k,o,none⟩) n c):=by simp only [aEnv,trOf_get,hl]
 have e2:aOptV (aEnv (trOf l)) (some (.tmp d)) = some (some (.int .i64 a)):=by simp only [aOptV,aEnv,trOf_get,h1]
 have e3:aOptV (aEnv (trOf l)) (some (.tmp e)) = some (some (.int .i64 a)):=by simp only [aOptV,aEnv,trOf_get,h2]
 have e4:aOptV (aEnv (trOf l)) none = some none:=rfl
 have n1:natOf (some (.int .i64 (a:Int))) 0 = some a:=natOf_n
 have n2:natOf (some (.int .i64 (a:Int))) n = some a:=natOf_n
 have n3:natOf none c = some c:=rfl
 have h1:aSlice P t (.slice (some ⟨k,o,none⟩) n c) (some (.int .i64 a)) (some (.int .i64 a)) none = none:=by
  simp only [aSlice,hu,hi,n1,n2,n3]
  rw [if_neg (by omega)]
  simp [h0]
 have h2:aSliceEnd P h t (.slice (some ⟨k,o,none⟩) n c) (some (.int .i64 a)) (some (.int .i64 a)) none = some (.slice (some ⟨h.next,0,none⟩) 0 openB,h.bump):=by
  simp only [aSliceEnd,hu,hi,n1,n2]
  rw [if_pos ⟨hc,trivial,hn⟩]
 simp only [aOp,e1,e2,e3,e4,h1,h2]
end
end Go.Vm
namespace Go.Proofs.YtgjokhodccacoaaDoor
open Go.RowKit Go.Vm
set_option maxRecDepth 100000
theorem rget_o (n c : Nat) (at_ : Int) (xs : List Int) (hn : xs.length = n) (hB : isB xs) (hb : n ≤ 1000000) (hc : openB ≤ c) :
    Fc Tryd.prog 26 [.slice (some ⟨1,0,none⟩) n c,.int .i64 at_] (Hp 2 [none,srB xs]) (gtV 2 (getR xs at_)) ((Hp 2 [none,srB xs]).news [.cells ⟨rows eB (getR xs at_).2.1,1,true⟩]):=by
 have bad : ∀ (e:Int) {l:Fr} {L:List (Option AObj)},getR xs at_ = (0,[],0,e)→resF Tryd.prog l (Hp 2 L) [.cell 4 30,.tmp 5,.tmp 6] = some [.agg #[.int .i64 0,.slice none 0 0],.int .i64 0,.int .i64 e]→EndR Tryd.prog [.cell 4 30,.tmp 5,.tmp 6] 2 [.cells ⟨rows eB (getR xs at_).2.1,1,true⟩] (gtV 2 (getR xs at_)) .ret l [] (Hp 2 L):=by
  intro e l L h hr
  rw [h]
  exact end_nil (mk:=fun s=>.tuple #[.agg #[.int .i64 0,s],.int .i64 0,.int .i64 e]) (mvG _ _ _) hr rfl
 refine Fc.introR fn26 (by simp) rfl rfl ?_; simp only [argF]
 refine ITri.seq ?_
 refine ITri.reg pok ?_; simp -implicitDefEqProofs (disch:=first|decide|exact of_eq_true (eq_true rfl)|omega|assumption) only [↓vcD,vcE,↓vcG,vcF,evs,evP,evB,intsOf,fillC,Value.cells,pt,Value.oneCell',reduceIte,reduceCtorEq,Nat.reduceEqDiff,Nat.reduceAdd,Nat.reduceMul,Nat.reduceLT,Nat.reduceBEq,Nat.reduceLeDiff,Nat.reduceSub]
 refine ITri.seq ?_
 refine ITri.seq ?_
 refine ITri.reg pok ?_; simp -implicitDefEqProofs (disch:=first|decide|exact of_eq_true (eq_true rfl)|omega|assumption) only [↓vcD,vcE,↓vcG,vcF,evs,evP,evB,intsOf,fillC,Value.cells,pt,Value.oneCell',reduceIte,reduceCtorEq,Nat.reduceEqDiff,Nat.reduceAdd,Nat.reduceMul,Nat.reduceLT,Nat.reduceBEq,Nat.reduceLeDiff,Nat.reduceSub]
 refine ITri.condD (by rfl) (fun h1=>?_) (fun h1=>?_)
 ·refine ITri.seq ?_
  refine ITri.reg pok ?_; simp -implicitDefEqProofs (disch:=first|decide|exact of_eq_true (eq_true rfl)|omega|assumption) only [↓vcD,vcE,↓vcG,vcF,evs,evP,evB,intsOf,fillC,Value.cells,pt,Value.oneCell',reduceIte,reduceCtorEq,Nat.reduceEqDiff,Nat.reduceAdd,Nat.reduceMul,Nat.reduceLT,Nat.reduceBEq,Nat.reduceLeDiff,Nat.reduceSub]
  refine ITri.ret ?_
  exact bad 5 (by unfold getR; rw [hn,if_pos (by omega)]) (resF_agg 2 rfl (by kernel_rfl) (by simp -implicitDefEqProofs (disch:=first|decide|exact of_eq_true (eq_true rfl)|omega|assumption) only [↓vcD,vcE,↓vcG,vcF,evs,evP,evB,intsOf,fillC,Value.cells,pt,Value.oneCell',reduceIte,reduceCtorEq,Nat.reduceEqDiff,Nat.reduceAdd,Nat.reduceMul,Nat.reduceLT,Nat.reduceBEq,Nat.reduceLeDiff,Nat.reduceSub]) (resF_tmp rfl (resF_tmp rfl resF_nil)))
 refine ITri.skip ?_; simp only [SeqQ_normal,BlkQ_normal]
 refine ITri.seq ?_
 refine ITri.seq ?_
 by_cases g1:at_ < 0
 ·refine ITri.reg pok ?_; simp -implicitDefEqProofs (disch:=first|decide|exact of_eq_true (eq_true rfl)|omega|assumption) only [g1,decide_true, ↓vcD,vcE,↓vcG,vcF,evs,evP,evB,intsOf,fillC,Value.cells,pt,Value.oneCell',reduceIte,reduceCtorEq,Nat.reduceEqDiff,Nat.reduceAdd,Nat.reduceMul,Nat.reduceLT,Nat.reduceBEq,Nat.reduceLeDiff,Nat.reduceSub]
  refine ITri.cond (v:=true) rfl (fun _=>?_) (fun h=>by cases h)
  refine ITri.seq ?_
  refine ITri.reg pok ?_; simp -implicitDefEqProofs (disch:=first|decide|exact of_eq_true (eq_true rfl)|omega|assumption) only [↓vcD,vcE,↓vcG,vcF,evs,evP,evB,intsOf,fillC,Value.cells,pt,Value.oneCell',reduceIte,reduceCtorEq,Nat.reduceEqDiff,Nat.reduceAdd,Nat.reduceMul,Nat.reduceLT,Nat.reduceBEq,Nat.reduceLeDiff,Nat.reduceSub]
  refine ITri.ret ?_
  exact bad 3 (by unfold getR; rw [hn,if_neg (by omega),if_pos (by omega)]) (resF_agg 2 rfl (by kernel_rfl) (by simp -implicitDefEqProofs (disch:=first|decide|exact of_eq_true (eq_true rfl)|omega|assumption) only [↓vcD,vcE,↓vcG,vcF,evs,evP,evB,intsOf,fillC,Value.cells,pt,Value.oneCell',reduceIte,reduceCtorEq,Nat.reduceEqDiff,Nat.reduceAdd,Nat.reduceMul,Nat.reduceLT,Nat.reduceBEq,Nat.reduceLeDiff,Nat.reduceSub]) (resF_tmp rfl (resF_tmp rfl resF_nil)))
 by_cases g2:(n:Int) < at_
 ·refine ITri.reg pok ?_; simp -implicitDefEqProofs (disch:=first|decide|exact of_eq_true (eq_true rfl)|omega|assumption) only [g1,g2,decide_true,decide_false, ↓vcD,vcE,↓vcG,vcF,evs,evP,evB,intsOf,fillC,Value.cells,pt,Value.oneCell',reduceIte,reduceCtorEq,Nat.reduceEqDiff,Nat.reduceAdd,Nat.reduceMul,Nat.reduceLT,Nat.reduceBEq,Nat.reduceLeDiff,Nat.reduceSub]
  refine ITri.cond (v:=true) rfl (fun _=>?_) (fun h=>by cases h)
  refine ITri.seq ?_
  refine ITri.reg pok ?_; simp -implicitDefEqProofs (disch:=first|decide|exact of_eq_true (eq_true rfl)|omega|assumption) only [↓vcD,vcE,↓vcG,vcF,evs,evP,evB,intsOf,fillC,Value.cells,pt,Value.oneCell',reduceIte,reduceCtorEq,Nat.reduceEqDiff,Nat.reduceAdd,Nat.reduceMul,Nat.reduceLT,Nat.reduceBEq,Nat.reduceLeDiff,Nat.reduceSub]
  refine ITri.ret ?_
  exact bad 3 (by unfold getR; rw [hn,if_neg (by omega),if_pos (by omega)]) (resF_agg 2 rfl (by kernel_rfl) (by simp -implicitDefEqProofs (disch:=first|decide|exact of_eq_true (eq_true rfl)|omega|assumption) only [↓vcD,vcE,↓vcG,vcF,evs,evP,evB,intsOf,fillC,Value.cells,pt,Value.oneCell',reduceIte,reduceCtorEq,Nat.reduceEqDiff,Nat.reduceAdd,Nat.reduceMul,Nat.reduceLT,Nat.reduceBEq,Nat.reduceLeDiff,Nat.reduceSub]) (resF_tmp rfl (resF_tmp rfl resF_nil)))
 obtain ⟨k,rfl⟩:=Int.eq_ofNat_of_zero_le (show 0≤at_ by omega)
 have hk:k≤n:=by omega
 have e0:getR xs k = match frF xs k with
  | .ok kd a m nx=>(kd,sub xs a m,(nx:Int),0)
  | .err e _=>(0,[],0,e):=by
  unfold getR
  rw [hn,if_neg (by omega),if_neg (by omega),Int.toNat_natCast]
  rfl
 refine ITri.reg pok ?_; simp -implicitDefEqProofs (disch:=first|decide|exact of_eq_true (eq_true rfl)|omega|assumption) only [g1,g2,decide_false, ↓vcD,vcE,↓vcG,vcF,evs,evP,evB,intsOf,fillC,Value.cells,pt,Value.oneCell',reduceIte,reduceCtorEq,Nat.reduceEqDiff,Nat.reduceAdd,Nat.reduceMul,Nat.reduceLT,Nat.reduceBEq,Nat.reduceLeDiff,Nat.reduceSub]
 refine ITri.cond (v:=false) rfl (fun h=>by cases h) (fun _=>?_); refine ITri.skip ?_; simp only [SeqQ_normal,BlkQ_normal]
 unfold frF at e0
 rw [hn] at e0
 refine ITri.seq ?_
 refine ITri.seq ?_
 refine ITri.reg pok ?_; simp -implicitDefEqProofs (disch:=first|decide|exact of_eq_true (eq_true rfl)|omega|assumption) only [↓vcD,vcE,↓vcG,vcF,evs,evP,evB,intsOf,fillC,Value.cells,pt,Value.oneCell',reduceIte,reduceCtorEq,Nat.reduceEqDiff,Nat.reduceAdd,Nat.reduceMul,Nat.reduceLT,Nat.reduceBEq,Nat.reduceLeDiff,Nat.reduceSub]
 refine ITri.condD (by rfl) (fun h3=>?_) (fun h3=>?_)
 ·refine ITri.seq ?_
  refine ITri.reg pok ?_; simp -implicitDefEqProofs (disch:=first|decide|exact of_eq_true (eq_true rfl)|omega|assumption) only [↓vcD,vcE,↓vcG,vcF,evs,evP,evB,intsOf,fillC,Value.cells,pt,Value.oneCell',reduceIte,reduceCtorEq,Nat.reduceEqDiff,Nat.reduceAdd,Nat.reduceMul,Nat.reduceLT,Nat.reduceBEq,Nat.reduceLeDiff,Nat.reduceSub]
  refine ITri.ret ?_
  exact bad 60 (by rw [e0,if_pos (by omega)]) (resF_agg 2 rfl (by kernel_rfl) (by simp -implicitDefEqProofs (disch:=first|decide|exact of_eq_true (eq_true rfl)|omega|assumption) only [↓vcD,vcE,↓vcG,vcF,evs,evP,evB,intsOf,fillC,Value.cells,pt,Value.oneCell',reduceIte,reduceCtorEq,Nat.reduceEqDiff,Nat.reduceAdd,Nat.reduceMul,Nat.reduceLT,Nat.reduceBEq,Nat.reduceLeDiff,Nat.reduceSub]) (resF_tmp rfl (resF_tmp rfl resF_nil)))
 rw [if_neg (by omega)] at e0
 have hkx:k < xs.length:=by omega
 have hg:=getB hkx
 have hv:=hB _ (nth_mem hkx)
 generalize hx0:nth xs k = x0 at *
 refine ITri.skip ?_; simp only [SeqQ_normal,BlkQ_normal]
 refine ITri.seq ?_
 refine ITri.seq ?_
 by_cases g3:x0 < 1
 ·refine ITri.reg pok ?_; simp -implicitDefEqProofs (disch:=first|decide|exact of_eq_true (eq_true rfl)|omega|assumption) only [hg,g3,decide_true, ↓vcD,vcE,↓vcG,vcF,evs,evP,evB,intsOf,fillC,Value.cells,pt,Value.oneCell',reduceIte,reduceCtorEq,Nat.reduceEqDiff,Nat.reduceAdd,Nat.reduceMul,Nat.reduceLT,Nat.reduceBEq,Nat.reduceLeDiff,Nat.reduceSub]
  refine ITri.cond (v:=true) rfl (fun _=>?_) (fun h=>by cases h)
  refine ITri.seq ?_
  refine ITri.reg pok ?_; simp -implicitDefEqProofs (disch:=first|decide|exact of_eq_true (eq_true rfl)|omega|assumption) only [↓vcD,vcE,↓vcG,vcF,evs,evP,evB,intsOf,fillC,Value.cells,pt,Value.oneCell',reduceIte,reduceCtorEq,Nat.reduceEqDiff,Nat.reduceAdd,Nat.reduceMul,Nat.reduceLT,Nat.reduceBEq,Nat.reduceLeDiff,Nat.reduceSub]
  refine ITri.ret ?_
  exact bad 4 (by rw [e0,if_pos (by omega)]) (resF_agg 2 rfl (by kernel_rfl) (by simp -implicitDefEqProofs (disch:=first|decide|exact of_eq_true (eq_true rfl)|omega|assumption) only [↓vcD,vcE,↓vcG,vcF,evs,evP,evB,intsOf,fillC,Value.cells,pt,Value.oneCell',reduceIte,reduceCtorEq,Nat.reduceEqDiff,Nat.reduceAdd,Nat.reduceMul,Nat.reduceLT,Nat.reduceBEq,Nat.reduceLeDiff,Nat.reduceSub]) (resF_tmp rfl (resF_tmp rfl resF_nil)))
 by_cases g4:250 < x0
 ·refine ITri.reg pok ?_; simp -implicitDefEqProofs (disch:=first|decide|exact of_eq_true (eq_true rfl)|omega|assumption) only [hg,g3,g4,decide_true,decide_false, ↓vcD,vcE,↓vcG,vcF,evs,evP,evB,intsOf,fillC,Value.cells,pt,Value.oneCell',reduceIte,reduceCtorEq,Nat.reduceEqDiff,Nat.reduceAdd,Nat.reduceMul,Nat.reduceLT,Nat.reduceBEq,Nat.reduceLeDiff,Nat.reduceSub]
  refine ITri.cond (v:=true) rfl (fun _=>?_) (fun h=>by cases h)
  refine ITri.seq ?_
  refine ITri.reg pok ?_; simp -implicitDefEqProofs (disch:=first|decide|exact of_eq_true (eq_true rfl)|omega|assumption) only [↓vcD,vcE,↓vcG,vcF,evs,evP,evB,intsOf,fillC,Value.cells,pt,Value.oneCell',reduceIte,reduceCtorEq,Nat.reduceEqDiff,Nat.reduceAdd,Nat.reduceMul,Nat.reduceLT,Nat.reduceBEq,Nat.reduceLeDiff,Nat.reduceSub]
  refine ITri.ret ?_
  exact bad 4 (by rw [e0,if_pos (by omega)]) (resF_agg 2 rfl (by kernel_rfl) (by simp -implicitDefEqProofs (disch:=first|decide|exact of_eq_true (eq_true rfl)|omega|assumption) only [↓vcD,vcE,↓vcG,vcF,evs,evP,evB,intsOf,fillC,Value.cells,pt,Value.oneCell',reduceIte,reduceCtorEq,Nat.reduceEqDiff,Nat.reduceAdd,Nat.reduceMul,Nat.reduceLT,Nat.reduceBEq,Nat.reduceLeDiff,Nat.reduceSub]) (resF_tmp rfl (resF_tmp rfl resF_nil)))
 rw [if_neg (by omega)] at e0
 refine ITri.reg pok ?_; simp -implicitDefEqProofs (disch:=first|decide|exact of_eq_true (eq_true rfl)|omega|assumption) only [hg,g3,g4,decide_false, ↓vcD,vcE,↓vcG,vcF,evs,evP,evB,intsOf,fillC,Value.cells,pt,Value.oneCell',reduceIte,reduceCtorEq,Nat.reduceEqDiff,Nat.reduceAdd,Nat.reduceMul,Nat.reduceLT,Nat.reduceBEq,Nat.reduceLeDiff,Nat.reduceSub]
 refine ITri.cond (v:=false) rfl (fun h=>by cases h) (fun _=>?_); refine ITri.skip ?_; simp only [SeqQ_normal,BlkQ_normal]
 have hk1:((k:Int) + 1) = ((k + 1:Nat):Int):=by omega
 have r0:resN xs 1000000000000000 id ((k + 1:Nat):Int) = match numG xs 1000000000000000 (k + 1) 9 0 with
  | .ok v nx=>(v,(nx:Int),0)
  | .err e _=>(0,0,e):=by
  unfold resN
  rw [hn,if_neg (by omega),if_neg (by omega),Int.toNat_natCast]
  rfl
 refine ITri.seq ?_
 refine ITri.reg pok ?_; simp -implicitDefEqProofs (disch:=first|decide|exact of_eq_true (eq_true rfl)|omega|assumption) only [hk1, ↓vcD,vcE,↓vcG,vcF,evs,evP,evB,intsOf,fillC,Value.cells,pt,Value.oneCell',reduceIte,reduceCtorEq,Nat.reduceEqDiff,Nat.reduceAdd,Nat.reduceMul,Nat.reduceLT,Nat.reduceBEq,Nat.reduceLeDiff,Nat.reduceSub]
 refine ⟨_,_,plain_f _ hn hB hb (sees0 rfl (of_decide_eq_true rfl)) (get_hq rfl rfl),?_⟩
 rw [r0]
 cases hr:numG xs 1000000000000000 (k + 1) 9 0 with
 | err e nx =>
  have he:=numG_e 9 0 hr
  rw [hr] at e0
  try simp -implicitDefEqProofs (disch:=first|decide|exact of_eq_true (eq_true rfl)|omega|assumption) only [↓vcD,vcE,↓vcG,vcF,evs,evP,evB,intsOf,fillC,Value.cells,pt,Value.oneCell',reduceIte,reduceCtorEq,Nat.reduceEqDiff,Nat.reduceAdd,Nat.reduceMul,Nat.reduceLT,Nat.reduceBEq,Nat.reduceLeDiff,Nat.reduceSub]
  refine ITri.seq ?_
  refine ITri.block ?_
  refine ITri.seq ?_
  refine ITri.reg pok ?_; simp -implicitDefEqProofs (disch:=first|decide|exact of_eq_true (eq_true rfl)|omega|assumption) only [he,decide_false,Bool.not_false, ↓vcD,vcE,↓vcG,vcF,evs,evP,evB,intsOf,fillC,Value.cells,pt,Value.oneCell',reduceIte,reduceCtorEq,Nat.reduceEqDiff,Nat.reduceAdd,Nat.reduceMul,Nat.reduceLT,Nat.reduceBEq,Nat.reduceLeDiff,Nat.reduceSub]
  refine ITri.cond (v:=true) rfl (fun _=>?_) (fun h=>by cases h)
  refine ITri.seq ?_
  refine ITri.reg pok ?_; simp -implicitDefEqProofs (disch:=first|decide|exact of_eq_true (eq_true rfl)|omega|assumption) only [↓vcD,vcE,↓vcG,vcF,evs,evP,evB,intsOf,fillC,Value.cells,pt,Value.oneCell',reduceIte,reduceCtorEq,Nat.reduceEqDiff,Nat.reduceAdd,Nat.reduceMul,Nat.reduceLT,Nat.reduceBEq,Nat.reduceLeDiff,Nat.reduceSub]
  refine ITri.ret ?_
  exact bad e e0 (resF_agg 2 rfl (by kernel_rfl) (by simp -implicitDefEqProofs (disch:=first|decide|exact of_eq_true (eq_true rfl)|omega|assumption) only [↓vcD,vcE,↓vcG,vcF,evs,evP,evB,intsOf,fillC,Value.cells,pt,Value.oneCell',reduceIte,reduceCtorEq,Nat.reduceEqDiff,Nat.reduceAdd,Nat.reduceMul,Nat.reduceLT,Nat.reduceBEq,Nat.reduceLeDiff,Nat.reduceSub]) (resF_tmp rfl (resF_tmp rfl resF_nil)))
 | ok v nx =>
  obtain ⟨b1,b2,b3,b4,b5⟩:=numG_bd 9 0 (by omega) hr
  rw [hr] at e0
  obtain ⟨m,rfl⟩:=Int.eq_ofNat_of_zero_le b1
  simp only [Int.toNat_natCast] at e0
  try simp -implicitDefEqProofs (disch:=first|decide|exact of_eq_true (eq_true rfl)|omega|assumption) only [↓vcD,vcE,↓vcG,vcF,evs,evP,evB,intsOf,fillC,Value.cells,pt,Value.oneCell',reduceIte,reduceCtorEq,Nat.reduceEqDiff,Nat.reduceAdd,Nat.reduceMul,Nat.reduceLT,Nat.reduceBEq,Nat.reduceLeDiff,Nat.reduceSub]
  refine ITri.seq ?_
  refine ITri.block ?_
  refine ITri.seq ?_
  refine ITri.reg pok ?_; simp -implicitDefEqProofs (disch:=first|decide|exact of_eq_true (eq_true rfl)|omega|assumption) only [decide_true,Bool.not_true, ↓vcD,vcE,↓vcG,vcF,evs,evP,evB,intsOf,fillC,Value.cells,pt,Value.oneCell',reduceIte,reduceCtorEq,Nat.reduceEqDiff,Nat.reduceAdd,Nat.reduceMul,Nat.reduceLT,Nat.reduceBEq,Nat.reduceLeDiff,Nat.reduceSub]
  refine ITri.cond (v:=false) rfl (fun h=>by cases h) (fun _=>?_)
  refine ITri.seq ?_
  refine ITri.reg pok ?_; simp -implicitDefEqProofs (disch:=first|decide|exact of_eq_true (eq_true rfl)|omega|assumption) only [↓vcD,vcE,↓vcG,vcF,evs,evP,evB,intsOf,fillC,Value.cells,pt,Value.oneCell',reduceIte,reduceCtorEq,Nat.reduceEqDiff,Nat.reduceAdd,Nat.reduceMul,Nat.reduceLT,Nat.reduceBEq,Nat.reduceLeDiff,Nat.reduceSub]
  refine ITri.condD (by rfl) (fun h6=>?_) (fun h6=>?_)
  ·refine ITri.seq ?_
   refine ITri.reg pok ?_; simp -implicitDefEqProofs (disch:=first|decide|exact of_eq_true (eq_true rfl)|omega|assumption) only [↓vcD,vcE,↓vcG,vcF,evs,evP,evB,intsOf,fillC,Value.cells,pt,Value.oneCell',reduceIte,reduceCtorEq,Nat.reduceEqDiff,Nat.reduceAdd,Nat.reduceMul,Nat.reduceLT,Nat.reduceBEq,Nat.reduceLeDiff,Nat.reduceSub]
   refine ITri.ret ?_
   exact bad 5 (by rw [e0,if_pos (by omega)]) (resF_agg 2 rfl (by kernel_rfl) (by simp -implicitDefEqProofs (disch:=first|decide|exact of_eq_true (eq_true rfl)|omega|assumption) only [↓vcD,vcE,↓vcG,vcF,evs,evP,evB,intsOf,fillC,Value.cells,pt,Value.oneCell',reduceIte,reduceCtorEq,Nat.reduceEqDiff,Nat.reduceAdd,Nat.reduceMul,Nat.reduceLT,Nat.reduceBEq,Nat.reduceLeDiff,Nat.reduceSub]) (resF_tmp rfl (resF_tmp rfl resF_nil)))
  rw [if_neg (by omega)] at e0
  refine ITri.seq ?_
  refine ITri.reg pok ?_; simp -implicitDefEqProofs (disch:=first|decide|exact of_eq_true (eq_true rfl)|omega|assumption) only [↓vcD,vcE,↓vcG,vcF,evs,evP,evB,intsOf,fillC,Value.cells,pt,Value.oneCell',reduceIte,reduceCtorEq,Nat.reduceEqDiff,Nat.reduceAdd,Nat.reduceMul,Nat.reduceLT,Nat.reduceBEq,Nat.reduceLeDiff,Nat.reduceSub]
  refine ITri.condD (by rfl) (fun h7=>?_) (fun h7=>?_)
  ·refine ITri.seq ?_
   refine ITri.reg pok ?_; simp -implicitDefEqProofs (disch:=first|decide|exact of_eq_true (eq_true rfl)|omega|assumption) only [↓vcD,vcE,↓vcG,vcF,evs,evP,evB,intsOf,fillC,Value.cells,pt,Value.oneCell',reduceIte,reduceCtorEq,Nat.reduceEqDiff,Nat.reduceAdd,Nat.reduceMul,Nat.reduceLT,Nat.reduceBEq,Nat.reduceLeDiff,Nat.reduceSub]
   refine ITri.ret ?_
   exact bad 60 (by rw [e0,if_pos (by omega)]) (resF_agg 2 rfl (by kernel_rfl) (by simp -implicitDefEqProofs (disch:=first|decide|exact of_eq_true (eq_true rfl)|omega|assumption) only [↓vcD,vcE,↓vcG,vcF,evs,evP,evB,intsOf,fillC,Value.cells,pt,Value.oneCell',reduceIte,reduceCtorEq,Nat.reduceEqDiff,Nat.reduceAdd,Nat.reduceMul,Nat.reduceLT,Nat.reduceBEq,Nat.reduceLeDiff,Nat.reduceSub]) (resF_tmp rfl (resF_tmp rfl resF_nil)))
  rw [if_neg (by omega)] at e0
  have hs1:((nx:Int) + m) = ((nx + m:Nat):Int):=by omega
  have hs2:(((nx + m:Nat):Int) + 1) = ((nx + m + 1:Nat):Int):=by omega
  have hsl:=sub_len (xs:=xs) (a:=k) (m:=nx + m - k) (by omega)
  have hby:=bys_sub (a:=k) (m:=nx + m - k) (bys_rows xs) (by omega)
  rw [Nat.zero_add] at hby
  have hgA:=getB (xs:=xs) (i:=nx + m) (by omega)
  have hgB:=getB (xs:=xs) (i:=nx + m + 1) (by omega)
  have hvA:=hB _ (nth_mem (xs:=xs) (i:=nx + m) (by omega))
  have hvB:=hB _ (nth_mem (xs:=xs) (i:=nx + m + 1) (by omega))
  refine ITri.skip ?_; simp only [SeqQ_normal,BlkQ_normal]
  refine ITri.seq ?_
  refine ITri.seq ?_
  refine ITri.reg pok ?_; simp -implicitDefEqProofs (disch:=first|decide|exact of_eq_true (eq_true rfl)|omega|assumption) only [hs1, ↓vcD,vcE,↓vcG,vcF,evs,evP,evB,intsOf,fillC,Value.cells,pt,Value.oneCell',reduceIte,reduceCtorEq,Nat.reduceEqDiff,Nat.reduceAdd,Nat.reduceMul,Nat.reduceLT,Nat.reduceBEq,Nat.reduceLeDiff,Nat.reduceSub]
  refine gen_2 (a:=k) (m:=nx + m - k) u_slB i_u8 sz_u8 rfl rfl rfl rfl (by omega) (by omega) (fun h=>absurd h (Nat.not_lt.2 hc)) (by omega) fun c' _=>?_
  try simp -implicitDefEqProofs (disch:=first|decide|exact of_eq_true (eq_true rfl)|omega|assumption) only [↓vcD,vcE,↓vcG,vcF,evs,evP,evB,intsOf,fillC,Value.cells,pt,Value.oneCell',reduceIte,reduceCtorEq,Nat.reduceEqDiff,Nat.reduceAdd,Nat.reduceMul,Nat.reduceLT,Nat.reduceBEq,Nat.reduceLeDiff,Nat.reduceSub]
  refine ⟨_,_,rcheck_x (L:=[none,srB xs,_]) rfl hby (sub_B hB) hsl (by omega),?_⟩
  have hc1:crc (sub xs k (nx + m - k)) < 65536:=crc_lt _
  generalize crc (sub xs k (nx + m - k)) = cr at *
  generalize nth xs (nx + m) = yA at *
  generalize nth xs (nx + m + 1) = yB at *
  have f1:dvI .quo (cr:Int) 256 = ((cr / 256:Nat):Int):=rfl
  have f2:dvI .rem (cr:Int) 256 = ((cr % 256:Nat):Int):=rfl
  try simp -implicitDefEqProofs (disch:=first|decide|exact of_eq_true (eq_true rfl)|omega|assumption) only [↓vcD,vcE,↓vcG,vcF,evs,evP,evB,intsOf,fillC,Value.cells,pt,Value.oneCell',reduceIte,reduceCtorEq,Nat.reduceEqDiff,Nat.reduceAdd,Nat.reduceMul,Nat.reduceLT,Nat.reduceBEq,Nat.reduceLeDiff,Nat.reduceSub]
  refine ITri.seq ?_
  by_cases g5:yA = ((cr / 256:Nat):Int)
  ·by_cases g6:yB = ((cr % 256:Nat):Int)
   ·rw [if_neg (by omega)] at e0
    refine ITri.reg pok ?_; simp -implicitDefEqProofs (disch:=first|decide|exact of_eq_true (eq_true rfl)|omega|assumption) only [hgA,hgB,hs1,hs2,f1,f2,g5,g6,decide_true,Bool.not_true, ↓vcD,vcE,↓vcG,vcF,evs,evP,evB,intsOf,fillC,Value.cells,pt,Value.oneCell',reduceIte,reduceCtorEq,Nat.reduceEqDiff,Nat.reduceAdd,Nat.reduceMul,Nat.reduceLT,Nat.reduceBEq,Nat.reduceLeDiff,Nat.reduceSub]
    refine ITri.cond (v:=false) rfl (fun h=>by cases h) (fun _=>?_); refine ITri.skip ?_; simp only [SeqQ_normal,BlkQ_normal]
    have hsm:=sub_len (xs:=xs) (a:=nx) (m:=m) (by omega)
    have e1:(getR xs k).2.1 = sub xs nx m:=by rw [e0]
    have e2:gtV 2 (getR xs k) = .tuple #[.agg #[.int .i64 x0,sO 2 m],.int .i64 (nx + m + 2:Nat),.int .i64 0]:=by rw [e0,gtV,hsm]
    have hs3:(((nx + m:Nat):Int) + 2) = ((nx + m + 2:Nat):Int):=by omega
    rw [e1,e2]
    refine ITri.seq ?_
    by_cases hm0:m = 0
    ·subst hm0
     have hs0:sub xs nx 0 = []:=List.eq_nil_of_length_eq_zero hsm
     rw [hs0]
     refine ITri.draw pok ?_; simp -implicitDefEqProofs (disch:=first|decide|exact of_eq_true (eq_true rfl)|omega|assumption) only [hg,hs1,hs3, ↓vcD,vcE,↓vcG,vcF,evs,evP,evB,intsOf,fillC,Value.cells,pt,Value.oneCell',reduceIte,reduceCtorEq,Nat.reduceEqDiff,Nat.reduceAdd,Nat.reduceMul,Nat.reduceLT,Nat.reduceBEq,Nat.reduceLeDiff,Nat.reduceSub]
     refine gen_2y (a:=nx) u_slB i_u8 rfl hc rfl rfl rfl (by omega) (by omega) (by omega) ?_
     rw [Hq_bump]
     simp -implicitDefEqProofs (disch:=first|decide|exact of_eq_true (eq_true rfl)|omega|assumption) only [appK_0',hs1,hs3, ↓vcD,vcE,↓vcG,vcF,evs,evP,evB,intsOf,fillC,Value.cells,pt,Value.oneCell',reduceIte,reduceCtorEq,Nat.reduceEqDiff,Nat.reduceAdd,Nat.reduceMul,Nat.reduceLT,Nat.reduceBEq,Nat.reduceLeDiff,Nat.reduceSub]
     refine ITri.ret ?_
     exact end_room (k:=3) (cs:=[]) (op:=false) (n:=0) (mk:=fun s=>.tuple #[.agg #[.int .i64 x0,s],.int .i64 (nx + 0 + 2:Nat),.int .i64 0]) 0 (mvG _ _ _) (by decide) (by decide) (by decide) rfl rfl (by decide) (by first|rfl|simp) (resF_agg 2 rfl (by kernel_rfl) (by simp -implicitDefEqProofs (disch:=first|decide|exact of_eq_true (eq_true rfl)|omega|assumption) only [↓vcD,vcE,↓vcG,vcF,evs,evP,evB,intsOf,fillC,Value.cells,pt,Value.oneCell',reduceIte,reduceCtorEq,Nat.reduceEqDiff,Nat.reduceAdd,Nat.reduceMul,Nat.reduceLT,Nat.reduceBEq,Nat.reduceLeDiff,Nat.reduceSub]) (resF_tmp rfl (resF_tmp rfl resF_nil))) rfl
    ·have hby2:=bys_sub (a:=nx) (m:=m) (bys_rows xs) (by omega)
     rw [Nat.zero_add] at hby2
     have ht:=bys_take hby2
     rw [hsm] at ht
     have hT:takeC (rows eB xs) nx m = some (rows eB (sub xs nx m)):=by rw [takeC_eq _ _ _ (by rw [rows_len]; omega),ht]
     refine ITri.draw pok ?_; simp -implicitDefEqProofs (disch:=first|decide|exact of_eq_true (eq_true rfl)|omega|assumption) only [hg,hs1,hs3, ↓vcD,vcE,↓vcG,vcF,evs,evP,evB,intsOf,fillC,Value.cells,pt,Value.oneCell',reduceIte,reduceCtorEq,Nat.reduceEqDiff,Nat.reduceAdd,Nat.reduceMul,Nat.reduceLT,Nat.reduceBEq,Nat.reduceLeDiff,Nat.reduceSub]
     refine gen_2 (a:=nx) (m:=m) u_slB i_u8 sz_u8 rfl rfl rfl rfl (by omega) (by omega) (fun h=>absurd h (Nat.not_lt.2 hc)) (by omega) fun c' _=>?_
     simp -implicitDefEqProofs (disch:=first|decide|exact of_eq_true (eq_true rfl)|omega|assumption) only [hT,rows_allT,hs1,hs3, ↓vcD,vcE,↓vcG,vcF,evs,evP,evB,intsOf,fillC,Value.cells,pt,Value.oneCell',reduceIte,reduceCtorEq,Nat.reduceEqDiff,Nat.reduceAdd,Nat.reduceMul,Nat.reduceLT,Nat.reduceBEq,Nat.reduceLeDiff,Nat.reduceSub]
     refine ITri.ret ?_
     exact end_mk (k:=4) (n:=m) (mk:=fun s=>.tuple #[.agg #[.int .i64 x0,s],.int .i64 (nx + m + 2:Nat),.int .i64 0]) (mvG _ _ _) (by decide) (rows_no (f:=eB) _) rfl (resF_agg 2 rfl (by kernel_rfl) (by simp -implicitDefEqProofs (disch:=first|decide|exact of_eq_true (eq_true rfl)|omega|assumption) only [↓vcD,vcE,↓vcG,vcF,evs,evP,evB,intsOf,fillC,Value.cells,pt,Value.oneCell',reduceIte,reduceCtorEq,Nat.reduceEqDiff,Nat.reduceAdd,Nat.reduceMul,Nat.reduceLT,Nat.reduceBEq,Nat.reduceLeDiff,Nat.reduceSub]) (resF_tmp rfl (resF_tmp rfl resF_nil))) rfl
   ·refine ITri.reg pok ?_; simp -implicitDefEqProofs (disch:=first|decide|exact of_eq_true (eq_true rfl)|omega|assumption) only [hgA,hgB,hs1,hs2,f1,f2,g5,g6,decide_true,decide_false,Bool.not_true,Bool.not_false, ↓vcD,vcE,↓vcG,vcF,evs,evP,evB,intsOf,fillC,Value.cells,pt,Value.oneCell',reduceIte,reduceCtorEq,Nat.reduceEqDiff,Nat.reduceAdd,Nat.reduceMul,Nat.reduceLT,Nat.reduceBEq,Nat.reduceLeDiff,Nat.reduceSub]
    refine ITri.cond (v:=true) rfl (fun _=>?_) (fun h=>by cases h)
    refine ITri.seq ?_
    refine ITri.reg pok ?_; simp -implicitDefEqProofs (disch:=first|decide|exact of_eq_true (eq_true rfl)|omega|assumption) only [↓vcD,vcE,↓vcG,vcF,evs,evP,evB,intsOf,fillC,Value.cells,pt,Value.oneCell',reduceIte,reduceCtorEq,Nat.reduceEqDiff,Nat.reduceAdd,Nat.reduceMul,Nat.reduceLT,Nat.reduceBEq,Nat.reduceLeDiff,Nat.reduceSub]
    refine ITri.ret ?_
    exact bad 62 (by rw [e0,if_pos (by omega)]) (resF_agg 2 rfl (by kernel_rfl) (by simp -implicitDefEqProofs (disch:=first|decide|exact of_eq_true (eq_true rfl)|omega|assumption) only [↓vcD,vcE,↓vcG,vcF,evs,evP,evB,intsOf,fillC,Value.cells,pt,Value.oneCell',reduceIte,reduceCtorEq,Nat.reduceEqDiff,Nat.reduceAdd,Nat.reduceMul,Nat.reduceLT,Nat.reduceBEq,Nat.reduceLeDiff,Nat.reduceSub]) (resF_tmp rfl (resF_tmp rfl resF_nil)))
  ·refine ITri.reg pok ?_; simp -implicitDefEqProofs (disch:=first|decide|exact of_eq_true (eq_true rfl)|omega|assumption) only [hgA,hgB,hs1,hs2,f1,f2,g5,decide_false,Bool.not_false, ↓vcD,vcE,↓vcG,vcF,evs,evP,evB,intsOf,fillC,Value.cells,pt,Value.oneCell',reduceIte,reduceCtorEq,Nat.reduceEqDiff,Nat.reduceAdd,Nat.reduceMul,Nat.reduceLT,Nat.reduceBEq,Nat.reduceLeDiff,Nat.reduceSub]
   refine ITri.cond (v:=true) rfl (fun _=>?_) (fun h=>by cases h)
   refine ITri.seq ?_
   refine ITri.reg pok ?_; simp -implicitDefEqProofs (disch:=first|decide|exact of_eq_true (eq_true rfl)|omega|assumption) only [↓vcD,vcE,↓vcG,vcF,evs,evP,evB,intsOf,fillC,Value.cells,pt,Value.oneCell',reduceIte,reduceCtorEq,Nat.reduceEqDiff,Nat.reduceAdd,Nat.reduceMul,Nat.reduceLT,Nat.reduceBEq,Nat.reduceLeDiff,Nat.reduceSub]
   refine ITri.ret ?_
   exact bad 62 (by rw [e0,if_pos (by omega)]) (resF_agg 2 rfl (by kernel_rfl) (by simp -implicitDefEqProofs (disch:=first|decide|exact of_eq_true (eq_true rfl)|omega|assumption) only [↓vcD,vcE,↓vcG,vcF,evs,evP,evB,intsOf,fillC,Value.cells,pt,Value.oneCell',reduceIte,reduceCtorEq,Nat.reduceEqDiff,Nat.reduceAdd,Nat.reduceMul,Nat.reduceLT,Nat.reduceBEq,Nat.reduceLeDiff,Nat.reduceSub]) (resF_tmp rfl (resF_tmp rfl resF_nil)))
theorem rget_p {n c sz k o : Nat} {op : Bool} {xs : List Int} {cs : List Value} {h : AH} (at_ : Int) (hn : xs.length = n) (hB : isB xs) (hb : n ≤ 1000000) (hc : openB ≤ c) (hs : h.sees 0 = true) (hg : h.get k = some (.cells ⟨cs, sz, op⟩)) (hp : rows eB xs <+: cs.drop o) (ho : o ≤ cs.length) :
    Fc Tryd.prog 26 [.slice (some ⟨k,o,none⟩) n c,.int .i64 at_] h (gtV h.next (getR xs at_)) (h.news [.cells ⟨rows eB (getR xs at_).2.1,1,true⟩]) :=
 Fc.liftP (cs:=[(n,rows eB xs)]) (caps:=[c]) (ps:=[(k,o,false)]) (os:=[((getR xs at_).2.1.length,rows eB (getR xs at_).2.1,1)]) (mk:=fun ss=>ss++[.int .i64 at_]) (mkv:=fun ss=>.tuple ⟨[.agg ⟨[Value.int .i64 (getR xs at_).1]++ss++[]⟩,.int .i64 (getR xs at_).2.2.1,.int .i64 (getR xs at_).2.2.2]⟩) (rget_o n c at_ xs hn hB hb hc) (MkL.app rfl) (MkV.tup (MkL.agg1 (MkL.mid rfl rfl) rfl)) (fun p hp=>by simp at hp; subst hp; exact rows_no (f:=eB) _) (fun o h=>by simp at h; subst h; exact rows_no (f:=eB) _) hs ⟨⟨get_sees hg,⟨_,hg,hp,fun _=>ho⟩⟩,⟨(fun e=>by cases e),trivial⟩⟩
end Go.Proofs.YtgjokhodccacoaaDoor
set_option linter.unusedSimpArgs false
set_option linter.unusedVariables false
namespace Go.Vm
open Go Go.RowKit
theorem Rw.dappN {P : Program} {b wl : Nat} {M : List (Option AObj)} {k c n sz ne bytes k2 o2 c2 nx m cm : Nat} {cs new : List Value} {l : Fr} {x y : X} {nw : List (Nat × Nat × Nat)} (h : Rw b M k c n sz cs) (hb : wl ≤ b) (hsz : Nat.beq sz 1 = false) (hcm : Nat.beq cm 0 = false) (hx : x.ev l = some (.slice (some ⟨k, 0, none⟩) n c)) (hy : y.ev l = some (.slice (some ⟨k2, o2, none⟩) ne c2)) (hs : cellsAt (Hp wl M) k2 o2 (ne * sz) = some new) (hne : ne ≠ 0) (hnl : new.length = ne * sz) (hbd : (2 * (n + ne) + 1024) * bytes ≤ 281474976710656) (h1 : new.all Value.oneCell' = true) (hbM : b ≤ M.length) (hv : hidL m nw = []) (hw : wOKm m nw = true) (ho : oldName k nw = true) :
    ∃ M',M'.length = M.length + 1∧(∀ j,j≠k→j < M.length→M'[j]? = M[j]?)∧Rw b M' M.length openB (n + ne) sz (cs++new)∧∀ KD:Value→AH→List (Nat×Nat×Nat)→Prop,KD (.slice (some ⟨M.length,0,none⟩) (n + ne) openB) (Hp wl M') ((nx,M.length,M.length + 1) :: nw)→dStep P nx m cm false (.app sz bytes x y) l (Hp wl M) nw KD:=by
 obtain ⟨h2,h3,op,h4,h5⟩:=h
 have hk:=get_lt h4
 have hlen:(cs++new).length = (n + ne) * sz:=by rw [List.length_append,h3,hnl,Nat.add_mul]
 have han:addNews nx M.length (M.length + 1) nw = (nx,M.length,M.length + 1) :: nw:=if_pos (Nat.lt_succ_self _)
 rcases h5 with ⟨rfl,rfl⟩|⟨rfl,rfl⟩
 ·refine ⟨(M++[some (AObj.cells ⟨cs++new,sz,true⟩)]).set k none,by rw [List.length_set,List.length_append]; rfl,fun j hj hl=>by rw [List.getElem?_set_ne (by omega),List.getElem?_append_left hl],⟨hbM,hlen,true,?_,.inl ⟨rfl,rfl⟩⟩,fun KD q=>?_⟩
  ·rw [List.getElem?_set_ne (by omega),List.getElem?_append_right (Nat.le_refl _),Nat.sub_self]
   rfl
  ·rw [dStep_ak hcm hx hy hne (by rw [hv]; rfl) (by rw [h4]; rfl) h3 (by rw [hsz]; rfl)]
   refine ⟨hw,ho,?_⟩
   rw [iStep_app,hx,hy,hv]
   simp only
   rw [appK_o rfl (by rw [h4]; rfl) h3 hne,show cellsAt (Hq wl ([]++[]) M) k2 o2 (ne * sz) = some new from hs]
   show chk _ _
   unfold chk
   refine ⟨⟨by omega,hbd⟩,h1,?_,?_⟩
   ·show ((M++[_]).set k none).length = _
    rw [List.length_set,List.length_append]
    rfl
   ·rw [show (Hq wl ([]++[]) ((M++[some (AObj.cells ⟨cs++new,sz,true⟩)]).set k none)).next = M.length + 1 by show ((M++[_]).set k none).length = _; rw [List.length_set,List.length_append]; rfl,han]
    exact q
 ·have e0:cs = []:=List.eq_nil_of_length_eq_zero (by rw [h3,Nat.zero_mul])
  subst e0
  rw [Nat.zero_add] at hbd hlen
  rw [Nat.zero_add]
  refine ⟨M++[some (.cells ⟨new,sz,true⟩)],by rw [List.length_append]; rfl,fun j hj hl=>by rw [List.getElem?_append_left hl],⟨hbM,hlen,true,?_,.inl ⟨rfl,rfl⟩⟩,fun KD q=>?_⟩
  ·rw [List.getElem?_append_right (Nat.le_refl _),Nat.sub_self]
   rfl
  ·rw [dStep_k hcm rfl (by
     simp only [killN,hx,hy]
     rw [if_neg (fun h=>absurd h.1 (by unfold openB; omega))])]
   refine ⟨hw,?_⟩
   rw [iStep_app,hx,hy,Hq_view,hv]
   simp only
   rw [appK_e (by unfold sCells; exact if_pos rfl) hne,show cellsAt (Hq M.length ([]++[]) M) k2 o2 (ne * sz) = some new from hs]
   show chk _ _
   unfold chk
   refine ⟨hbd,?_⟩
   rw [show (Hq M.length ([]++[]) (M++[some (AObj.cells ⟨new,sz,true⟩)])).next = M.length + 1 by show (M++[_]).length = _; rw [List.length_append]; rfl,show (Hq wl [] M).next = M.length from rfl,han]
   exact q
end Go.Vm
namespace Go.Proofs.YtgjokhodccacoaaDoor
open Go.RowKit Go.Vm
set_option maxRecDepth 100000
structure RfS where
 at_:Nat
 fs:List FrT
 kg:Nat
 cg:Nat
 kw:Nat
 o:Nat
 c:Nat
 M:List (Option AObj)
structure RfI (L1:List (Option AObj)) (kw:Nat) (ws:List Int) (j:Nat) (s:RfS):Prop where
 le:s.at_≤ws.length
 old : ∀ i,i < L1.length→s.M[i]? = L1[i]?
 len:L1.length≤s.M.length
 got:Rw L1.length s.M s.kg s.cg s.fs.length 2 (fcs s.fs)
 wts:s.at_ < ws.length→s.kw = kw∧s.o = s.at_∧openB≤s.c∧s.M[kw]? = some (opR ws)
 fd:FD L1.length s.M s.fs
 res:s.fs.map (·.2)++(fdF ws s.at_).1 = (fdF ws 0).1
 fin:(fdF ws s.at_).2 = (fdF ws 0).2
 num:j + (fdF ws s.at_).1.length = (fdF ws 0).1.length
 fl:s.fs.length≤s.at_
abbrev frRf (kr:Nat) (ws:List Int) (s:RfS):Fr:=[(4,pt kr),(7,.slice (some ⟨s.kw,s.o,none⟩) (ws.length - s.at_) s.c),(8,.slice (some ⟨s.kg,0,none⟩) s.fs.length s.cg)]
theorem getR_piece {xs:List Int} {a nx:Nat} {kd:Int} {pay:List Int} (hl:xs.length≤30000) (ha:a≤xs.length) (h:getR xs a = (kd,pay,(nx:Int),0)) (hn:a≤nx):getR (xs.drop a) ((0:Nat):Int) = (kd,pay,((nx - a:Nat):Int),0):=by
 obtain ⟨g1,g2,g3,g4⟩:=getR_drop (xs:=xs) (a:=a) (p:=0) hl (by omega)
 rw [Nat.add_zero] at g1 g2 g3 g4
 rw [h] at g1 g2 g3 g4
 simp only at g1 g2 g3 g4
 have g5:=g4 g3.symm
 have e:(getR (xs.drop a) ((0:Nat):Int)).2.2.1 = ((nx - a:Nat):Int):=by omega
 rw [g1,g2,← e,g3]
def ir43_r0:IC:=.reg [⟨some 2,none,false,.box (.t 0)⟩,
 ⟨some 4,none,false,.alloc [(.bool false),(.bool false),(.slice none 0 0)]⟩,
 ⟨some 5,none,false,.mv (.k (.slice none 0 0))⟩,
 ⟨some 6,none,false,.mv (.k (.int .i64 0))⟩] (some [1,2,4])
def ir43_r1:IC:=.reg [⟨some 12,none,false,.fad 0 (.t 2)⟩,
 ⟨some 13,none,false,.ldc (.t 12)⟩] (some [1,2,4,13])
def ir43_r2:IC:=.reg [⟨some 14,none,false,.lda 3 (.t 2)⟩,
 ⟨none,none,false,.st 3 (.t 4) (.t 14)⟩,
 ⟨some 5,none,false,.mv (.k (.slice none 0 0))⟩,
 ⟨some 6,none,false,.mv (.k (.int .i64 1))⟩] (some [4,5,6])
def ir43_1:IC:=.seq ir43_r2 .ret
def ir43_2:IC:=.cond (.t 13) ir43_1 .skip
def ir43_3:IC:=.seq ir43_r1 ir43_2
def ir43_r3:IC:=.reg [⟨some 15,none,false,.fad 1 (.t 2)⟩,
 ⟨some 16,none,false,.ldc (.t 15)⟩] (some [1,2,4,16])
def ir43_r4:IC:=.reg [⟨some 17,none,false,.lda 3 (.t 2)⟩,
 ⟨none,none,false,.st 3 (.t 4) (.t 17)⟩,
 ⟨some 5,none,false,.mv (.k (.slice none 0 0))⟩,
 ⟨some 6,none,false,.mv (.k (.int .i64 9))⟩] (some [4,5,6])
def ir43_4:IC:=.seq ir43_r4 .ret
def ir43_5:IC:=.cond (.t 16) ir43_4 .skip
def ir43_6:IC:=.seq ir43_r3 ir43_5
def ir43_r5:IC:=.reg [⟨some 18,none,false,.mv (.t 1)⟩,
 ⟨some 19,none,false,.len (.t 18)⟩,
 ⟨some 20,none,false,.cmp .gtr (.t 19) (.k (.int .i64 10000))⟩] (some [1,2,4,20])
def ir43_r6:IC:=.reg [⟨some 21,none,false,.lda 3 (.t 2)⟩,
 ⟨none,none,false,.st 3 (.t 4) (.t 21)⟩,
 ⟨some 5,none,false,.mv (.k (.slice none 0 0))⟩,
 ⟨some 6,none,false,.mv (.k (.int .i64 5))⟩] (some [4,5,6])
def ir43_7:IC:=.seq ir43_r6 .ret
def ir43_8:IC:=.cond (.t 20) ir43_7 .skip
def ir43_9:IC:=.seq ir43_r5 ir43_8
def ir43_r7:IC:=.reg [⟨some 22,none,false,.bsl 1 0 [] []⟩,
 ⟨some 23,none,false,.fad 2 (.t 2)⟩,
 ⟨some 24,none,false,.ldc (.t 23)⟩,
 ⟨some 25,none,false,.app 1 1 (.t 22) (.t 24)⟩,
 ⟨some 26,none,false,.mv (.t 1)⟩,
 ⟨some 27,none,false,.app 1 1 (.t 25) (.t 26)⟩,
 ⟨some 28,none,false,.bsl 2 0 [] []⟩,
 ⟨some 7,none,false,.mv (.t 27)⟩,
 ⟨some 8,none,false,.mv (.t 28)⟩] (some [4,7,8])
def ir43_r8:IC:=.reg [⟨some 30,none,false,.mv (.t 7)⟩,
 ⟨some 31,none,false,.call (.f 26) [(.t 30),(.k (.int .i64 0))]⟩,
 ⟨some 29,none,false,.mv (.t 31)⟩,
 ⟨some 32,none,false,.ext (.t 29) 0⟩,
 ⟨some 33,none,false,.ext (.t 29) 1⟩,
 ⟨some 34,none,false,.ext (.t 29) 2⟩,
 ⟨some 9,none,false,.alloc [(.int .i64 0),(.slice none 0 0)]⟩,
 ⟨none,none,false,.st 2 (.t 9) (.t 32)⟩,
 ⟨some 10,none,false,.mv (.t 33)⟩,
 ⟨some 11,none,false,.mv (.t 34)⟩] (some [4,7,8,9,10,11])
def ir43_r9:IC:=.reg [⟨some 35,none,false,.mv (.t 11)⟩,
 ⟨some 36,none,false,.cmp .eql (.t 35) (.k (.int .i64 60))⟩] (some [4,7,8,9,10,11,36])
def ir43_r10:IC:=.reg [⟨some 37,none,false,.mv (.t 7)⟩,
 ⟨some 38,none,false,.bld [(.bool false),(.bool false),(.slice none 0 0)] [(2,1,(.t 37))]⟩,
 ⟨some 39,none,false,.mv (.t 8)⟩,
 ⟨none,none,false,.st 3 (.t 4) (.t 38)⟩,
 ⟨some 5,none,false,.mv (.t 39)⟩,
 ⟨some 6,none,false,.mv (.k (.int .i64 0))⟩] (some [4,5,6])
def ir43_10:IC:=.seq ir43_r10 .ret
def ir43_11:IC:=.cond (.t 36) ir43_10 .skip
def ir43_12:IC:=.seq ir43_r9 ir43_11
def ir43_r11:IC:=.reg [⟨some 40,none,false,.mv (.t 11)⟩,
 ⟨some 41,none,false,.cmp .neq (.t 40) (.k (.int .i64 0))⟩] (some [4,7,8,9,10,11,41])
def ir43_r12:IC:=.reg [⟨some 42,none,false,.bld [(.bool false),(.bool false),(.slice none 0 0)] [(1,1,(.k (.bool true)))]⟩,
 ⟨some 43,none,false,.mv (.t 8)⟩,
 ⟨some 44,none,false,.mv (.t 11)⟩,
 ⟨none,none,false,.st 3 (.t 4) (.t 42)⟩,
 ⟨some 5,none,false,.mv (.t 43)⟩,
 ⟨some 6,none,false,.mv (.t 44)⟩] (some [4,5,6])
def ir43_13:IC:=.seq ir43_r12 .ret
def ir43_14:IC:=.cond (.t 41) ir43_13 .skip
def ir43_15:IC:=.seq ir43_r11 ir43_14
def ir43_r13:IC:=.draw [(⟨some 45,none,false,.mv (.t 8)⟩,false,0,0),
 (⟨some 46,none,false,.lda 2 (.t 9)⟩,false,0,9),
 (⟨some 47,none,false,.bsl 2 1 [(.int .i64 0),(.slice none 0 0)] [(0,(.t 46))]⟩,false,2,9),
 (⟨some 48,none,false,.app 2 32 (.t 45) (.t 47)⟩,false,7,9),
 (⟨some 49,none,false,.mv (.t 7)⟩,false,0,0),
 (⟨some 50,none,false,.mv (.t 10)⟩,false,0,0),
 (⟨some 51,none,false,.gen (.slice 22 (.tmp 49) (some (.tmp 50)) none none)⟩,false,48,16),
 (⟨some 8,none,false,.mv (.t 48)⟩,false,15,0),
 (⟨some 7,none,false,.mv (.t 51)⟩,false,255,0)] (some [4,7,8])
def ir43_16:IC:=.seq ir43_15 ir43_r13
def ir43_17:IC:=.seq ir43_12 ir43_16
def ir43_18:IC:=.seq ir43_r8 ir43_17
def ir43_19:IC:=.block 1 ir43_18
def ir43_20:IC:=.loop ir43_19
def ir43_21:IC:=.block 0 ir43_20
def ir43_22:IC:=.seq ir43_r7 ir43_21
def ir43_23:IC:=.seq ir43_9 ir43_22
def ir43_24:IC:=.seq ir43_6 ir43_23
def ir43_25:IC:=.seq ir43_3 ir43_24
def ir43_26:IC:=.seq ir43_r0 ir43_25
def ir43:IC:=ir43_26
theorem fn43:FnIs Tryd.prog 43 ir43 52 [.cell 4 66,.tmp 5,.tmp 6]:=⟨Tryd.f43,Tryd.f43.body.getD .skip,Tryd.func43,by kernel_rfl,by kernel_rfl,by kernel_rfl,by kernel_rfl⟩
section
variable {wl kr kw bb j:Nat} {L1:List (Option AObj)} {ws:List Int} {s:RfS}
theorem rf_round (I : RfI L1 kw ws j s) (hj : j < (fdF ws 0).1.length) (hB : isB ws) (hl : ws.length ≤ 30000) (hwL : wl ≤ L1.length) (h0 : 0 < L1.length) :
    ∃ s',RfI L1 kw ws (j + 1) s'∧ITri Tryd.prog 52 none bb ir43_19 (frRf kr ws s) [] (Hp wl s.M) (AtF (frRf kr ws s') (Hp wl s'.M)):=by
 obtain ⟨at_,fs,kg,cg,kw',o,c,M⟩:=s
 obtain ⟨le,old,len,got,wts,fd,res,fin,num,fl⟩:=I
 simp only at le old len got wts fd res fin num fl
 obtain ⟨f,r,hfr⟩ : ∃ f r,(fdF ws at_).1 = f :: r:=by
  cases h:(fdF ws at_).1 with
  | nil=>rw [h] at num; simp only [List.length_nil] at num; omega
  | cons f r=>exact ⟨f,r,rfl⟩
 obtain ⟨nx,eg,h1,h2,h3,h4⟩:=fdF_cons hl le hfr
 obtain ⟨rfl,rfl,hco,hrow⟩:=wts (by omega)
 rw [hfr] at res num
 obtain ⟨kd,pay⟩:=f
 have eg0:=getR_piece hl le eg (by omega)
 simp only at eg0
 have hdl:(ws.drop o).length = ws.length - o:=List.length_drop
 have g1:=rget_p (k:=kw') (sz:=1) (op:=true) (o:=o) (c:=c) (xs:=ws.drop o) (cs:=rows eB ws) (h:=Hp wl M) ((0:Nat):Int) hdl (fun x hx=>hB x (List.mem_of_mem_drop hx)) (by omega) hco (sees0 rfl (by omega)) (get_hq rfl (by rw [hrow]; rfl)) (by
  have:=rows_drop (f:=eB) (xs:=ws) (i:=o)
  rw [Nat.mul_one] at this
  rw [this]
  exact List.prefix_refl _) (by rw [rows_len]; omega)
 rw [eg0] at g1
 obtain ⟨M2,hM2⟩ : ∃ M2,M++[some (AObj.cells ⟨rows eB pay,1,true⟩),some (AObj.cells ⟨[.int .i64 kd,sO M.length pay.length],1,false⟩)] = M2:=⟨_,rfl⟩
 have l2:M2.length = M.length + 2:=by rw [← hM2,List.length_append]; rfl
 have o2 : ∀ (j:Nat) (o:AObj),M[j]? = some (some o)→M2[j]? = some (some o):=fun j o hj=>by rw [← hM2]; exact low_get hj
 have p2:M2[M.length]? = some (opR pay):=by
  rw [← hM2,List.getElem?_append_right (Nat.le_refl _),Nat.sub_self]
  rfl
 have x2:M2[M.length + 1]? = some (some (AObj.cells ⟨[.int .i64 kd,sO M.length pay.length],1,false⟩)):=by
  rw [← hM2,List.getElem?_append_right (by omega),Nat.add_sub_cancel_left]
  rfl
 have hM5:wl≤M.length + 1:=by omega
 have hM4:wl≤M.length:=by omega
 obtain ⟨M3,hM3⟩ : ∃ M3,M2++[some (AObj.cells ⟨[.int .i64 kd,sO M.length pay.length],2,false⟩)] = M3:=⟨_,rfl⟩
 have l3:M3.length = M2.length + 1:=by rw [← hM3,List.length_append]; rfl
 have o3 : ∀ (j:Nat) (o:AObj),M2[j]? = some (some o)→M3[j]? = some (some o):=fun j o hj=>by rw [← hM3]; exact low_get hj
 have x3:M3[M2.length]? = some (some (AObj.cells ⟨[.int .i64 kd,sO M.length pay.length],2,false⟩)):=by
  rw [← hM3,List.getElem?_append_right (Nat.le_refl _),Nat.sub_self]
  rfl
 have o4' : ∀ i,i < M.length→M3[i]? = M[i]?:=fun i hi=>by rw [← hM3,List.getElem?_append_left (by omega),← hM2,List.getElem?_append_left hi]
 have got3:=got.mono (o4' kg got.lt)
 have hkg:=got.lt
 have an:addNews 2 M2.length M3.length [] = [(2,M2.length,M2.length + 1)]:=by rw [l3]; exact if_pos (Nat.lt_succ_self _)
 have hold:oldName kg [(2,M2.length,M2.length + 1)] = true:=by simp [oldName]; omega
 obtain ⟨M4,l4,p4,r4,q4⟩:=got3.dappN (P:=Tryd.prog) (nx:=3) (m:=7) (cm:=9) (bytes:=32) (k2:=M2.length) (o2:=0) (ne:=1) (c2:=1) (new:=fcs [(M.length,kd,pay)]) (nw:=[(2,M2.length,M2.length + 1)]) (l:=[(47,.slice (some ⟨M2.length,0,none⟩) 1 1),(46,.agg ⟨[.int .i64 kd,sO M.length pay.length]⟩),(45,.slice (some ⟨kg,0,none⟩) fs.length cg),(4,pt kr),(7,.slice (some ⟨kw',o,none⟩) (ws.length - o) c),(8,.slice (some ⟨kg,0,none⟩) fs.length cg),(9,pt (M.length + 1)),(10,.int .i64 (nx - o:Nat)),(11,.int .i64 0),(41,.bool false)]) (x:=.t 45) (y:=.t 47) hwL rfl rfl rfl rfl (cells_all x3 rfl) (by decide) rfl (by omega) rfl (by omega) (hidL_see (by rw [show Nat.testBit 7 2 = true from rfl]; simp)) (by simp [wOKm]) hold
 rw [← fcs_app] at r4
 have esz : ∀ (q:Nat) (xs:List Int),M[q]? = some (opR xs)→q≠kg:=fun q xs h=>pc_sz got q xs h
 have lfs:(fs++[(M.length,kd,pay)]).length = fs.length + 1:=by rw [List.length_append]; rfl
 have main : ∀ (M5:List (Option AObj)) (k5 o5 c5:Nat),M4.length≤M5.length→(∀ j,j < M4.length→M5[j]? = M4[j]?)→(nx < ws.length→k5 = kw'∧o5 = nx∧openB≤c5)→RfI L1 kw' ws (j + 1) ⟨nx,fs++[(M.length,kd,pay)],M3.length,openB,k5,o5,c5,M5⟩:=by
  intro M5 k5 o5 c5 hl5 h5 hw5
  have lo : ∀ i,i < M.length→i≠kg→M5[i]? = M[i]?:=fun i hi hk=>by rw [h5 i (by omega),p4 i hk (by omega),o4' i hi]
  refine ⟨h2,fun i hi=>?_,by show L1.length≤M5.length; omega,?_,fun h=>?_,fun g hg=>?_,?_,h4.trans fin,?_,?_⟩
  ·show M5[i]? = _
   rw [lo i (by omega) (by have:=got.1; omega)]
   exact old i hi
  ·show Rw L1.length M5 M3.length openB (fs++[(M.length,kd,pay)]).length 2 _
   rw [lfs]
   exact r4.mono (h5 _ r4.lt)
  ·obtain ⟨a1,a2,a3⟩:=hw5 h
   refine ⟨a1,a2,a3,?_⟩
   show M5[kw']? = _
   rw [lo kw' (get_lt hrow) (esz _ _ hrow)]
   exact hrow
  ·rcases List.mem_append.1 hg with hg|hg
   ·obtain ⟨b1,b2⟩:=fd g hg
    refine ⟨b1,?_⟩
    show M5[g.1]? = _
    rw [lo g.1 (get_lt b2) (esz _ _ b2)]
    exact b2
   ·simp only [List.mem_singleton] at hg
    subst hg
    refine ⟨len,?_⟩
    show M5[M.length]? = _
    rw [h5 _ (by omega),p4 _ (by omega) (by omega)]
    exact o3 _ _ p2
  ·show (fs++[(M.length,kd,pay)]).map (·.2)++(fdF ws nx).1 = _
   rw [← res,List.map_append,List.append_assoc,h3]
   rfl
  ·show j + 1 + (fdF ws nx).1.length = _
   rw [← num,h3,List.length_cons]
   omega
  ·show (fs++[(M.length,kd,pay)]).length≤nx
   rw [lfs]
   omega
 have walk : ∀ (s' : RfS),(iStep Tryd.prog false (I.gen (.slice 22 (.tmp 49) (some (.tmp 50)) none none)) [(50,.int .i64 (nx - o:Nat)),(49,.slice (some ⟨kw',o,none⟩) (ws.length - o) c),(48,.slice (some ⟨M3.length,0,none⟩) (fs.length + 1) openB),(47,.slice (some ⟨M2.length,0,none⟩) 1 1),(46,.agg ⟨[.int .i64 kd,sO M.length pay.length]⟩),(45,.slice (some ⟨kg,0,none⟩) fs.length cg),(4,pt kr),(7,.slice (some ⟨kw',o,none⟩) (ws.length - o) c),(8,.slice (some ⟨kg,0,none⟩) fs.length cg),(9,pt (M.length + 1)),(10,.int .i64 (nx - o:Nat)),(11,.int .i64 0),(41,.bool false)] (viewM (Hp wl M4) 48 [(3,M3.length,M3.length + 1),(2,M2.length,M2.length + 1)]) fun v h'=>AtF (frRf kr ws s') (Hp wl s'.M) .normal [(4,pt kr),(7,v),(8,.slice (some ⟨M3.length,0,none⟩) (fs.length + 1) openB)] [] (back (Hp wl M4) h'))→ITri Tryd.prog 52 none bb ir43_19 (frRf kr ws ⟨o,fs,kg,cg,kw',o,c,M⟩) [] (Hp wl M) (AtF (frRf kr ws s') (Hp wl s'.M)):=by
  intro s' q
  refine ITri.block ?_
  refine ITri.seq ?_
  refine ITri.reg pok ?_; simp -implicitDefEqProofs (disch:=first|decide|exact of_eq_true (eq_true rfl)|omega|assumption) only [↓vcD,vcE,↓vcG,vcF,evs,evP,evB,intsOf,fillC,Value.cells,pt,Value.oneCell',reduceIte,reduceCtorEq,Nat.reduceEqDiff,Nat.reduceAdd,Nat.reduceMul,Nat.reduceLT,Nat.reduceBEq,Nat.reduceLeDiff,Nat.reduceSub]
  refine ⟨_,_,g1,?_⟩
  simp -implicitDefEqProofs (disch:=first|decide|exact of_eq_true (eq_true rfl)|omega|assumption) only [news_c,news_n,apd_get,apd_get0,apd_set0,apd_set,List.length_append,List.append_assoc,Nat.add_assoc,hM5,hM2, ↓vcD,vcE,↓vcG,vcF,evs,evP,evB,intsOf,fillC,Value.cells,pt,Value.oneCell',reduceIte,reduceCtorEq,Nat.reduceEqDiff,Nat.reduceAdd,Nat.reduceMul,Nat.reduceLT,Nat.reduceBEq,Nat.reduceLeDiff,Nat.reduceSub]
  refine ITri.seq ?_
  refine ITri.seq ?_
  refine ITri.reg pok ?_; simp -implicitDefEqProofs (disch:=first|decide|exact of_eq_true (eq_true rfl)|omega|assumption) only [decide_false, ↓vcD,vcE,↓vcG,vcF,evs,evP,evB,intsOf,fillC,Value.cells,pt,Value.oneCell',reduceIte,reduceCtorEq,Nat.reduceEqDiff,Nat.reduceAdd,Nat.reduceMul,Nat.reduceLT,Nat.reduceBEq,Nat.reduceLeDiff,Nat.reduceSub]
  refine ITri.cond (v:=false) rfl (fun h=>by cases h) (fun _=>?_); refine ITri.skip ?_; simp only [SeqQ_normal,BlkQ_normal]
  refine ITri.seq ?_
  refine ITri.seq ?_
  refine ITri.reg pok ?_; simp -implicitDefEqProofs (disch:=first|decide|exact of_eq_true (eq_true rfl)|omega|assumption) only [decide_true,decide_false,Bool.not_true, ↓vcD,vcE,↓vcG,vcF,evs,evP,evB,intsOf,fillC,Value.cells,pt,Value.oneCell',reduceIte,reduceCtorEq,Nat.reduceEqDiff,Nat.reduceAdd,Nat.reduceMul,Nat.reduceLT,Nat.reduceBEq,Nat.reduceLeDiff,Nat.reduceSub]
  refine ITri.cond (v:=false) rfl (fun h=>by cases h) (fun _=>?_); refine ITri.skip ?_; simp only [SeqQ_normal,BlkQ_normal]
  refine ITri.draw pok ?_; simp -implicitDefEqProofs (disch:=first|decide|exact of_eq_true (eq_true rfl)|omega|assumption) only [x2, ↓vcD,vcE,↓vcG,vcF,evs,evP,evB,intsOf,fillC,Value.cells,pt,Value.oneCell',reduceIte,reduceCtorEq,Nat.reduceEqDiff,Nat.reduceAdd,Nat.reduceMul,Nat.reduceLT,Nat.reduceBEq,Nat.reduceLeDiff,Nat.reduceSub]
  rw [hM3,an]
  exact q4 _ ⟨by simp [wOKm],q⟩
 by_cases hend:nx = ws.length
 ·refine ⟨⟨nx,fs++[(M.length,kd,pay)],M3.length,openB,M4.length,0,openB,M4++[none]⟩,main _ _ _ _ (by rw [List.length_append]; omega) (fun j hj=>List.getElem?_append_left hj) (fun h=>absurd h (by omega)),walk _ ?_⟩
  rw [Hq_view]
  refine gen_endA u_slB i_u8 rfl hco rfl (by omega) (by omega) ?_
  rw [Hq_bump]
  refine AtF.mk ⟨rfl,?_,?_,trivial⟩
  ·show _ = some (Value.slice _ (ws.length - nx) openB)
   rw [hend,Nat.sub_self]
   rfl
  ·rw [lfs]; rfl
 ·refine ⟨⟨nx,fs++[(M.length,kd,pay)],M3.length,openB,kw',nx,c + (nx - o),M4⟩,main _ _ _ _ (Nat.le_refl _) (fun j hj=>rfl) (fun h=>⟨rfl,rfl,by omega⟩),walk _ ?_⟩
  rw [Hq_view]
  refine gen_fromA (i:=nx - o) u_slB i_u8 rfl rfl hco rfl rfl (.inl (by omega)) ?_
  refine AtF.mk ⟨rfl,?_,?_,trivial⟩
  ·show some (Value.slice (some ⟨kw',o + (nx - o),none⟩) (ws.length - o - (nx - o)) (c + (nx - o))) = some (Value.slice (some ⟨kw',nx,none⟩) (ws.length - nx) (c + (nx - o)))
   rw [show o + (nx - o) = nx by omega,show ws.length - o - (nx - o) = ws.length - nx by omega]
  ·rw [lfs]; rfl
end
end Go.Proofs.YtgjokhodccacoaaDoor
