import Derived.Test.YtgjokhodccacoaaDoorSRecH6
set_option linter.unusedSimpArgs false
set_option linter.unusedVariables false
namespace Go.Proofs.YtgjokhodccacoaaDoor
open Go.RowKit Go.Vm
set_option maxRecDepth 100000
structure Pc2 where
 i:Nat
 at_:Nat
 M:List (Option AObj)
structure Pc2I (n:Nat) (bs:List Int) (M1:List (Option AObj)) (fs:List FrT) (s:Pc2):Prop where
 le:s.i≤fs.length
 al:s.at_≤n
 old : ∀ j,j < M1.length→s.M[j]? = M1[j]?
 len:M1.length≤s.M.length
 res:(fdF bs s.at_).1 = (fs.drop s.i).map (·.2)
 fin:(fdF bs s.at_).2 = (fdF bs 0).2
theorem pc2_next {n : Nat} {bs : List Int} {M1 : List (Option AObj)} {fs : List FrT} {i at_ : Nat} {M M' : List (Option AObj)} {f : FrT} (I : Pc2I n bs M1 fs ⟨i, at_, M⟩) (hf : fs[i]? = some f) (hn : bs.length = n) (hb : n ≤ 2000) (hM : ∀ j, j < M.length → M'[j]? = M[j]?) (hl : M.length ≤ M'.length) :
    ∃ nx:Nat,getR bs at_ = (f.2.1,f.2.2,(nx:Int),0)∧nx≤n∧(i + 1 = fs.length→nx = (fdF bs 0).2.1)∧Pc2I n bs M1 fs ⟨i + 1,nx,M'⟩:=by
 obtain ⟨le,al,old,len,res,fin⟩:=I
 simp only at le al old len res fin
 have hi:=(List.getElem?_eq_some_iff.1 hf).1
 rw [List.drop_eq_getElem_cons hi,(List.getElem?_eq_some_iff.1 hf).2,List.map_cons] at res
 obtain ⟨nx,e,h1,h2,h3,h4⟩:=fdF_cons (by omega) (by omega) res
 refine ⟨nx,e,by omega,fun h=>?_,⟨hi,by show nx≤n; omega,fun j hj=>?_,Nat.le_trans len hl,h3,h4.trans fin⟩⟩
 ·have h5:(fdF bs nx).1 = []:=by rw [h3,h,List.drop_length]; rfl
  have h6:=fdF_none (by omega) h2 h5
  rw [h4,fin] at h6
  exact h6.symm
 ·rw [hM j (Nat.lt_of_lt_of_le hj len)]
  exact old j hj
section
variable {n c d k1 b1:Nat} {v a:Value} {bs:List Int} {M1:List (Option AObj)} {fs:List FrT}
theorem pieces_l (hn : bs.length = n) (hB : isB bs) (hb : n ≤ 2000) (hbs : M1[1]? = some (srB bs)) (R : RwV b1 M1 v fs.length 2 (fcs fs)) (D : FD b1 M1 fs) (hbox : M1[3]? = some (strB (.slice (some ⟨k1, 0, none⟩) (n - (fdF bs 0).2.1) d) false)) (h0 : M1[0]? = some none) (hres : fs.map (·.2) = (fdF bs 0).1) (hfl : fs.length ≤ 1000000) :
    ITri Tryd.prog 187 none 3 ir12_45 [(0,.slice (some ⟨1,0,none⟩) n c),(5,pt 3),(7,v)] [] (Hp 3 M1) (EndR Tryd.prog [.tmp 4] 3 [] (.bool true)):=by
 obtain ⟨a1,c1,e1⟩:=R.slc
 have hl3:=get_lt hbox
 refine ITri.seq ?_
 refine ITri.seq ?_
 refine ITri.reg pok ?_; simp -implicitDefEqProofs (disch:=first|decide|exact of_eq_true (eq_true rfl)|omega|assumption) only [↓vcD,vcE,↓vcG,vcF,evs,evP,evB,intsOf,fillC,Value.cells,pt,Value.oneCell',reduceIte,reduceCtorEq,Nat.reduceEqDiff,Nat.reduceAdd,Nat.reduceMul,Nat.reduceLT,Nat.reduceBEq,Nat.reduceLeDiff,Nat.reduceSub]
 refine ITri.block ?_
 refine ITri.loop (fun s:Pc2=>[(0,.slice (some ⟨1,0,none⟩) n c),(5,pt 3),(7,v),(18,.int .i64 s.i),(19,.int .i64 s.at_)]) (fun _=>[]) (fun s=>Hp 3 s.M) (Pc2I n bs M1 fs) (fun s=>fs.length - s.i) ⟨0,0,M1⟩ ⟨Nat.zero_le _,Nat.zero_le _,fun _ _=>rfl,Nat.le_refl _,hres.symm,rfl⟩ (Wk.sub ⟨rfl,rfl,rfl,rfl,rfl,trivial⟩) fun s I=>?_
 obtain ⟨i,at_,M⟩:=s
 have I':=I
 obtain ⟨le,al,old,len,res,fin⟩:=I'
 simp only at le al old len res fin
 refine ITri.seq ?_
 refine ITri.seq ?_
 rw [e1]
 refine ITri.reg pok ?_; simp -implicitDefEqProofs (disch:=first|decide|exact of_eq_true (eq_true rfl)|omega|assumption) only [↓vcD,vcE,↓vcG,vcF,evs,evP,evB,intsOf,fillC,Value.cells,pt,Value.oneCell',reduceIte,reduceCtorEq,Nat.reduceEqDiff,Nat.reduceAdd,Nat.reduceMul,Nat.reduceLT,Nat.reduceBEq,Nat.reduceLeDiff,Nat.reduceSub]
 refine ITri.condD (by rfl) (fun h9=>?_) (fun h9=>?_)
 ·have hix:i < fs.length:=by omega
  obtain ⟨f,hf⟩ : ∃ f,fs[i]? = some f:=⟨fs[i]'hix,List.getElem?_eq_getElem hix⟩
  obtain ⟨kk,c1',sz1,op1,x1,m1⟩:=R.get (by omega)
  rw [e1] at x1
  injection x1 with y1 _ y2
  subst y1 y2
  obtain ⟨q1,q2⟩:=fcs_get hf
  have d1:=(D f (List.mem_of_getElem? hf)).2
  have mbs:M[1]? = some (srB bs):=by rw [old 1 (by omega)]; exact hbs
  have m3:M[3]? = some (strB (.slice (some ⟨k1,0,none⟩) (n - (fdF bs 0).2.1) d) false):=by rw [old 3 hl3]; exact hbox
  obtain ⟨M2,hM2⟩ : ∃ M2,M++[some (AObj.cells ⟨rows eB bs,1,true⟩),some (AObj.cells ⟨rows eB f.2.2,1,true⟩),some (AObj.cells ⟨[.int .i64 f.2.1,sO (M.length + 1) f.2.2.length],1,false⟩)] = M2:=⟨_,rfl⟩
  have l2:M2.length = M.length + 3:=by rw [← hM2,List.length_append]; rfl
  have o2 : ∀ j,j < M.length→M2[j]? = M[j]?:=fun j hj=>by rw [← hM2,List.getElem?_append_left hj]
  obtain ⟨nx,eg,hnx,hlast,I2⟩:=pc2_next (M':=M2) I hf hn hb o2 (by omega)
  have g1:=get_f (k:=M.length) (sz:=1) (op:=true) (h:=Hp 3 (M++[some (AObj.cells ⟨rows eB bs,1,true⟩)])) (n:=n) (xs:=bs) at_ hn hB (by omega) (sees0 rfl (by rw [List.length_append]; omega)) (get_hq rfl (by rw [List.getElem?_append_right (Nat.le_refl _),Nat.sub_self]; rfl))
  rw [eg] at g1
  have t1:M2[kk]? = M1[kk]?:=by rw [o2 kk (by have:=get_lt m1; omega),old kk (get_lt m1)]
  have t2:M2[f.1]? = M1[f.1]?:=by rw [o2 f.1 (by have:=get_lt d1; omega),old f.1 (get_lt d1)]
  rw [m1] at t1
  rw [d1] at t2
  have t3:M2[M.length + 2]? = some (some (AObj.cells ⟨[.int .i64 f.2.1,sO (M.length + 1) f.2.2.length],1,false⟩)):=by
   rw [← hM2,List.getElem?_append_right (by omega),show M.length + 2 - M.length = 2 by omega]
   rfl
  have t4:M2[M.length + 1]? = some (some (AObj.cells ⟨rows eB f.2.2,1,true⟩)):=by
   rw [← hM2,List.getElem?_append_right (by omega),show M.length + 1 - M.length = 1 by omega]
   rfl
  have t5:M2[3]? = some (strB (.slice (some ⟨k1,0,none⟩) (n - (fdF bs 0).2.1) d) false):=by rw [o2 3 (by omega)]; exact m3
  have hi1:(i:Int) + 1 = ((i + 1:Nat):Int):=by omega
  refine ITri.skip ?_; simp only [SeqQ_normal,BlkQ_normal]
  refine ITri.seq ?_
  refine ITri.block ?_
  refine ITri.seq ?_
  refine ITri.reg pok ?_; simp -implicitDefEqProofs (disch:=first|decide|exact of_eq_true (eq_true rfl)|omega|assumption) only [↓vcD,vcE,↓vcG,vcF,evs,evP,evB,intsOf,fillC,Value.cells,pt,Value.oneCell',reduceIte,reduceCtorEq,Nat.reduceEqDiff,Nat.reduceAdd,Nat.reduceMul,Nat.reduceLT,Nat.reduceBEq,Nat.reduceLeDiff,Nat.reduceSub]
  refine ⟨_,_,ownB_f hn (by omega) (sees0 rfl (by omega)) (get_hq rfl (by rw [mbs]; rfl)),?_⟩
  simp -implicitDefEqProofs (disch:=first|decide|exact of_eq_true (eq_true rfl)|omega|assumption) only [news_c,news_n, ↓vcD,vcE,↓vcG,vcF,evs,evP,evB,intsOf,fillC,Value.cells,pt,Value.oneCell',reduceIte,reduceCtorEq,Nat.reduceEqDiff,Nat.reduceAdd,Nat.reduceMul,Nat.reduceLT,Nat.reduceBEq,Nat.reduceLeDiff,Nat.reduceSub]
  refine ⟨_,_,g1,?_⟩
  simp -implicitDefEqProofs (disch:=first|decide|exact of_eq_true (eq_true rfl)|omega|assumption) only [news_c,news_n,apd_get,apd_get0,apd_set0,apd_set,List.length_append,List.append_assoc,Nat.add_assoc,hM2, ↓vcD,vcE,↓vcG,vcF,evs,evP,evB,intsOf,fillC,Value.cells,pt,Value.oneCell',reduceIte,reduceCtorEq,Nat.reduceEqDiff,Nat.reduceAdd,Nat.reduceMul,Nat.reduceLT,Nat.reduceBEq,Nat.reduceLeDiff,Nat.reduceSub]
  refine ITri.seq ?_
  refine ITri.seq ?_
  refine ITri.draw pok ?_; simp -implicitDefEqProofs (disch:=first|decide|exact of_eq_true (eq_true rfl)|omega|assumption) only [t1,t2,t3,t4,q1,q2,decide_true,decide_false,Bool.not_true, ↓vcD,vcE,↓vcG,vcF,evs,evP,evB,intsOf,fillC,Value.cells,pt,Value.oneCell',reduceIte,reduceCtorEq,Nat.reduceEqDiff,Nat.reduceAdd,Nat.reduceMul,Nat.reduceLT,Nat.reduceBEq,Nat.reduceLeDiff,Nat.reduceSub]
  refine gen_str (xs:=f.2.2) (by decide) u_slB u_uint8 u_str rfl rfl (get_hq rfl (by rw [t4]; rfl)) ?_
  simp -implicitDefEqProofs (disch:=first|decide|exact of_eq_true (eq_true rfl)|omega|assumption) only [t1,q2, ↓vcD,vcE,↓vcG,vcF,evs,evP,evB,intsOf,fillC,Value.cells,pt,Value.oneCell',reduceIte,reduceCtorEq,Nat.reduceEqDiff,Nat.reduceAdd,Nat.reduceMul,Nat.reduceLT,Nat.reduceBEq,Nat.reduceLeDiff,Nat.reduceSub]
  refine gen_str (xs:=f.2.2) (by decide) u_slB u_uint8 u_str rfl rfl (get_hq rfl (by rw [t2]; rfl)) ?_
  try simp -implicitDefEqProofs (disch:=first|decide|exact of_eq_true (eq_true rfl)|omega|assumption) only [↓vcD,vcE,↓vcG,vcF,evs,evP,evB,intsOf,fillC,Value.cells,pt,Value.oneCell',reduceIte,reduceCtorEq,Nat.reduceEqDiff,Nat.reduceAdd,Nat.reduceMul,Nat.reduceLT,Nat.reduceBEq,Nat.reduceLeDiff,Nat.reduceSub]
  refine gen_sne rfl rfl ?_
  try simp -implicitDefEqProofs (disch:=first|decide|exact of_eq_true (eq_true rfl)|omega|assumption) only [↓vcD,vcE,↓vcG,vcF,evs,evP,evB,intsOf,fillC,Value.cells,pt,Value.oneCell',reduceIte,reduceCtorEq,Nat.reduceEqDiff,Nat.reduceAdd,Nat.reduceMul,Nat.reduceLT,Nat.reduceBEq,Nat.reduceLeDiff,Nat.reduceSub]
  refine ITri.cond (v:=false) rfl (fun h=>by cases h) (fun _=>?_); refine ITri.skip ?_; simp only [SeqQ_normal,BlkQ_normal]
  refine ITri.seq ?_
  refine ITri.reg pok ?_; simp -implicitDefEqProofs (disch:=first|decide|exact of_eq_true (eq_true rfl)|omega|assumption) only [↓vcD,vcE,↓vcG,vcF,evs,evP,evB,intsOf,fillC,Value.cells,pt,Value.oneCell',reduceIte,reduceCtorEq,Nat.reduceEqDiff,Nat.reduceAdd,Nat.reduceMul,Nat.reduceLT,Nat.reduceBEq,Nat.reduceLeDiff,Nat.reduceSub]
  refine ITri.seq ?_
  by_cases hz:i + 1 = fs.length
  ·have hz' : ((i:Int) = (fs.length:Int) - 1) = True:=eq_true (by omega)
   have hnx':=hlast hz
   have hr:((n - (fdF bs 0).2.1:Nat):Int) = (n:Int) - nx:=by omega
   refine ITri.reg pok ?_; simp -implicitDefEqProofs (disch:=first|decide|exact of_eq_true (eq_true rfl)|omega|assumption) only [hz',decide_true, ↓vcD,vcE,↓vcG,vcF,evs,evP,evB,intsOf,fillC,Value.cells,pt,Value.oneCell',reduceIte,reduceCtorEq,Nat.reduceEqDiff,Nat.reduceAdd,Nat.reduceMul,Nat.reduceLT,Nat.reduceBEq,Nat.reduceLeDiff,Nat.reduceSub]
   refine ⟨_,_,rest_x rfl t5,?_⟩
   simp -implicitDefEqProofs (disch:=first|decide|exact of_eq_true (eq_true rfl)|omega|assumption) only [hr,decide_true,decide_false,Bool.not_true, ↓vcD,vcE,↓vcG,vcF,evs,evP,evB,intsOf,fillC,Value.cells,pt,Value.oneCell',reduceIte,reduceCtorEq,Nat.reduceEqDiff,Nat.reduceAdd,Nat.reduceMul,Nat.reduceLT,Nat.reduceBEq,Nat.reduceLeDiff,Nat.reduceSub]
   refine ITri.cond (v:=false) rfl (fun h=>by cases h) (fun _=>?_); refine ITri.skip ?_; simp only [SeqQ_normal,BlkQ_normal]
   refine ITri.reg pok ?_; simp -implicitDefEqProofs (disch:=first|decide|exact of_eq_true (eq_true rfl)|omega|assumption) only [hi1, ↓vcD,vcE,↓vcG,vcF,evs,evP,evB,intsOf,fillC,Value.cells,pt,Value.oneCell',reduceIte,reduceCtorEq,Nat.reduceEqDiff,Nat.reduceAdd,Nat.reduceMul,Nat.reduceLT,Nat.reduceBEq,Nat.reduceLeDiff,Nat.reduceSub]
   exact LoopQ.next ⟨i + 1,nx,M2⟩ I2 (by show fs.length - (i + 1) < fs.length - i; omega) (Wk.sub ⟨rfl,rfl,rfl,rfl,rfl,trivial⟩)
  ·have hz' : ¬ (i:Int) = (fs.length:Int) - 1:=by omega
   refine ITri.reg pok ?_; simp -implicitDefEqProofs (disch:=first|decide|exact of_eq_true (eq_true rfl)|omega|assumption) only [hz',decide_false, ↓vcD,vcE,↓vcG,vcF,evs,evP,evB,intsOf,fillC,Value.cells,pt,Value.oneCell',reduceIte,reduceCtorEq,Nat.reduceEqDiff,Nat.reduceAdd,Nat.reduceMul,Nat.reduceLT,Nat.reduceBEq,Nat.reduceLeDiff,Nat.reduceSub]
   refine ITri.cond (v:=false) rfl (fun h=>by cases h) (fun _=>?_); refine ITri.skip ?_; simp only [SeqQ_normal,BlkQ_normal]
   refine ITri.reg pok ?_; simp -implicitDefEqProofs (disch:=first|decide|exact of_eq_true (eq_true rfl)|omega|assumption) only [hi1, ↓vcD,vcE,↓vcG,vcF,evs,evP,evB,intsOf,fillC,Value.cells,pt,Value.oneCell',reduceIte,reduceCtorEq,Nat.reduceEqDiff,Nat.reduceAdd,Nat.reduceMul,Nat.reduceLT,Nat.reduceBEq,Nat.reduceLeDiff,Nat.reduceSub]
   exact LoopQ.next ⟨i + 1,nx,M2⟩ I2 (by show fs.length - (i + 1) < fs.length - i; omega) (Wk.sub ⟨rfl,rfl,rfl,rfl,rfl,trivial⟩)
 refine ITri.exit ?_; try simp -implicitDefEqProofs (disch:=first|decide|exact of_eq_true (eq_true rfl)|omega|assumption) only [↓vcD,vcE,↓vcG,vcF,evs,evP,evB,intsOf,fillC,Value.cells,pt,Value.oneCell',reduceIte,reduceCtorEq,Nat.reduceEqDiff,Nat.reduceAdd,Nat.reduceMul,Nat.reduceLT,Nat.reduceBEq,Nat.reduceLeDiff,Nat.reduceSub]
 refine ITri.seq ?_
 refine ITri.reg pok ?_; simp -implicitDefEqProofs (disch:=first|decide|exact of_eq_true (eq_true rfl)|omega|assumption) only [↓vcD,vcE,↓vcG,vcF,evs,evP,evB,intsOf,fillC,Value.cells,pt,Value.oneCell',reduceIte,reduceCtorEq,Nat.reduceEqDiff,Nat.reduceAdd,Nat.reduceMul,Nat.reduceLT,Nat.reduceBEq,Nat.reduceLeDiff,Nat.reduceSub]
 refine ⟨_,_,knownT,?_⟩
 try simp -implicitDefEqProofs (disch:=first|decide|exact of_eq_true (eq_true rfl)|omega|assumption) only [↓vcD,vcE,↓vcG,vcF,evs,evP,evB,intsOf,fillC,Value.cells,pt,Value.oneCell',reduceIte,reduceCtorEq,Nat.reduceEqDiff,Nat.reduceAdd,Nat.reduceMul,Nat.reduceLT,Nat.reduceBEq,Nat.reduceLeDiff,Nat.reduceSub]
 refine ITri.ret ?_; exact EndR.plain (by simp) (by rfl) (by rfl) (by rfl)
end
end Go.Proofs.YtgjokhodccacoaaDoor
set_option linter.unusedSimpArgs false
set_option linter.unusedVariables false
namespace Go.Proofs.YtgjokhodccacoaaDoor
open Go.RowKit Go.Vm
set_option maxRecDepth 100000
theorem fdF_e:fdF [] 0 = ([],0,60):=by
 have e:getR [] ((0:Nat):Int) = (0,[],0,60):=rfl
 rw [fdF_err (by rw [e]; decide),e]
section
variable {n c m d k1 b1 k2 k20:Nat} {v a:Value} {bs cuts:List Int} {fs:List FrT}
theorem pieces_r {kg cg : Nat} {M0 M : List (Option AObj)} {G : List FrT} {E : Int} (hn : bs.length = n) (hB : isB bs) (hb : n ≤ 2000) (h0 : M[0]? = some none) (hbs : M[1]? = some (srB bs)) (R : RwV b1 M v fs.length 2 (fcs fs)) (D : FD b1 M fs) (hE : E = if (fdF bs 0).2.2 = 60 then 0 else (fdF bs 0).2.2) (hres : fs.map (·.2) = (fdF bs 0).1)
    (got:Rw M0.length M kg cg G.length 2 (fcs G)) (DG:FD M0.length M G) (hG:G.map (·.2) = (fdF bs 0).1)
    (hok:(fdF bs 0).2.2 = 60→M[3]? = some (strB (.slice (some ⟨k1,0,none⟩) (n - (fdF bs 0).2.1) openB) false)∧M[4]? = some (strB (.slice (some ⟨k2,0,none⟩) (n - (fdF bs 0).2.1) openB) false))
    (hbk:(fdF bs 0).2.2≠60→M[3]? = some (strB (.slice none 0 0) true)∧M[4]? = some (strB (.slice none 0 0) true)) :
    ITri Tryd.prog 187 none 3 ir12_47 [(0,.slice (some ⟨1,0,none⟩) n c),(5,pt 3),(6,pt 4),(7,v),(8,.int .i64 E),(9,.slice (some ⟨kg,0,none⟩) G.length cg),(10,.int .i64 E)] [] (Hp 3 M) (EndR Tryd.prog [.tmp 4] 3 [] (.bool true)):=by
 obtain ⟨a1,c1,e1⟩:=R.slc
 have hGl:G.length≤2000:=by
  have h1:=congrArg List.length hG
  rw [List.length_map] at h1
  have h2:=fdF_len (ws:=bs) (Nat.zero_le _)
  omega
 have hfl:fs.length≤2000:=by
  have h1:=congrArg List.length hres
  rw [List.length_map] at h1
  have h2:=fdF_len (ws:=bs) (Nat.zero_le _)
  omega
 have hs:=same_x (wl:=3) R (.inr ⟨kg,cg,rfl,got⟩) D DG (hres.trans hG.symm) (by omega)
 have hEE:(E = E) = True:=eq_true rfl
 refine ITri.seq ?_
 refine ITri.seq ?_
 by_cases h60:(fdF bs 0).2.2 = 60
 ·obtain ⟨b3,b4⟩:=hok h60
  rw [if_pos h60] at hE
  subst hE
  have hz : ¬ ((n - (fdF bs 0).2.1:Nat):Int) < 0:=by omega
  refine ITri.reg pok ?_; simp -implicitDefEqProofs (disch:=first|decide|exact of_eq_true (eq_true rfl)|omega|assumption) only [decide_true,Bool.not_true, ↓vcD,vcE,↓vcG,vcF,evs,evP,evB,intsOf,fillC,Value.cells,pt,Value.oneCell',reduceIte,reduceCtorEq,Nat.reduceEqDiff,Nat.reduceAdd,Nat.reduceMul,Nat.reduceLT,Nat.reduceBEq,Nat.reduceLeDiff,Nat.reduceSub]
  refine ⟨_,_,hs,?_⟩
  simp -implicitDefEqProofs (disch:=first|decide|exact of_eq_true (eq_true rfl)|omega|assumption) only [decide_true,Bool.not_true, ↓vcD,vcE,↓vcG,vcF,evs,evP,evB,intsOf,fillC,Value.cells,pt,Value.oneCell',reduceIte,reduceCtorEq,Nat.reduceEqDiff,Nat.reduceAdd,Nat.reduceMul,Nat.reduceLT,Nat.reduceBEq,Nat.reduceLeDiff,Nat.reduceSub]
  refine ⟨_,_,rest_x rfl b3,?_⟩
  try simp -implicitDefEqProofs (disch:=first|decide|exact of_eq_true (eq_true rfl)|omega|assumption) only [↓vcD,vcE,↓vcG,vcF,evs,evP,evB,intsOf,fillC,Value.cells,pt,Value.oneCell',reduceIte,reduceCtorEq,Nat.reduceEqDiff,Nat.reduceAdd,Nat.reduceMul,Nat.reduceLT,Nat.reduceBEq,Nat.reduceLeDiff,Nat.reduceSub]
  refine ⟨_,_,rest_x rfl b4,?_⟩
  simp -implicitDefEqProofs (disch:=first|decide|exact of_eq_true (eq_true rfl)|omega|assumption) only [decide_true,Bool.not_true, ↓vcD,vcE,↓vcG,vcF,evs,evP,evB,intsOf,fillC,Value.cells,pt,Value.oneCell',reduceIte,reduceCtorEq,Nat.reduceEqDiff,Nat.reduceAdd,Nat.reduceMul,Nat.reduceLT,Nat.reduceBEq,Nat.reduceLeDiff,Nat.reduceSub]
  refine ⟨_,_,rest_x rfl b3,?_⟩
  simp -implicitDefEqProofs (disch:=first|decide|exact of_eq_true (eq_true rfl)|omega|assumption) only [hz,decide_false, ↓vcD,vcE,↓vcG,vcF,evs,evP,evB,intsOf,fillC,Value.cells,pt,Value.oneCell',reduceIte,reduceCtorEq,Nat.reduceEqDiff,Nat.reduceAdd,Nat.reduceMul,Nat.reduceLT,Nat.reduceBEq,Nat.reduceLeDiff,Nat.reduceSub]
  refine ITri.cond (v:=false) rfl (fun h=>by cases h) (fun _=>?_); refine ITri.skip ?_; simp only [SeqQ_normal,BlkQ_normal]
  refine ITri.seq ?_
  refine ITri.seq ?_
  refine ITri.reg pok ?_; simp -implicitDefEqProofs (disch:=first|decide|exact of_eq_true (eq_true rfl)|omega|assumption) only [decide_true,Bool.not_true, ↓vcD,vcE,↓vcG,vcF,evs,evP,evB,intsOf,fillC,Value.cells,pt,Value.oneCell',reduceIte,reduceCtorEq,Nat.reduceEqDiff,Nat.reduceAdd,Nat.reduceMul,Nat.reduceLT,Nat.reduceBEq,Nat.reduceLeDiff,Nat.reduceSub]
  refine ITri.cond (v:=false) rfl (fun h=>by cases h) (fun _=>?_); refine ITri.skip ?_; simp only [SeqQ_normal,BlkQ_normal]
  exact ITri.weak (l':=[(0,.slice (some ⟨1,0,none⟩) n c),(5,pt 3),(7,v)]) (ms':=[]) (h':=Hp 3 M) (Wk.sub ⟨rfl,rfl,rfl,trivial⟩) (pieces_l hn hB hb hbs R D b3 h0 hres (by omega))
 ·obtain ⟨b3,b4⟩:=hbk h60
  rw [if_neg h60] at hE
  have hE0 : ¬ E = 0:=by
   rw [hE]
   exact (fdF_fin (ws:=bs) _ 0 (Nat.le_refl _) (Nat.zero_le _)).2.2.2 (by omega)
  refine ITri.reg pok ?_; simp -implicitDefEqProofs (disch:=first|decide|exact of_eq_true (eq_true rfl)|omega|assumption) only [decide_true,Bool.not_true, ↓vcD,vcE,↓vcG,vcF,evs,evP,evB,intsOf,fillC,Value.cells,pt,Value.oneCell',reduceIte,reduceCtorEq,Nat.reduceEqDiff,Nat.reduceAdd,Nat.reduceMul,Nat.reduceLT,Nat.reduceBEq,Nat.reduceLeDiff,Nat.reduceSub]
  refine ⟨_,_,hs,?_⟩
  simp -implicitDefEqProofs (disch:=first|decide|exact of_eq_true (eq_true rfl)|omega|assumption) only [decide_true,Bool.not_true, ↓vcD,vcE,↓vcG,vcF,evs,evP,evB,intsOf,fillC,Value.cells,pt,Value.oneCell',reduceIte,reduceCtorEq,Nat.reduceEqDiff,Nat.reduceAdd,Nat.reduceMul,Nat.reduceLT,Nat.reduceBEq,Nat.reduceLeDiff,Nat.reduceSub]
  refine ⟨_,_,rest_x rfl b3,?_⟩
  try simp -implicitDefEqProofs (disch:=first|decide|exact of_eq_true (eq_true rfl)|omega|assumption) only [↓vcD,vcE,↓vcG,vcF,evs,evP,evB,intsOf,fillC,Value.cells,pt,Value.oneCell',reduceIte,reduceCtorEq,Nat.reduceEqDiff,Nat.reduceAdd,Nat.reduceMul,Nat.reduceLT,Nat.reduceBEq,Nat.reduceLeDiff,Nat.reduceSub]
  refine ⟨_,_,rest_x rfl b4,?_⟩
  simp -implicitDefEqProofs (disch:=first|decide|exact of_eq_true (eq_true rfl)|omega|assumption) only [decide_true,Bool.not_true, ↓vcD,vcE,↓vcG,vcF,evs,evP,evB,intsOf,fillC,Value.cells,pt,Value.oneCell',reduceIte,reduceCtorEq,Nat.reduceEqDiff,Nat.reduceAdd,Nat.reduceMul,Nat.reduceLT,Nat.reduceBEq,Nat.reduceLeDiff,Nat.reduceSub]
  refine ⟨_,_,rest_x rfl b3,?_⟩
  simp -implicitDefEqProofs (disch:=first|decide|exact of_eq_true (eq_true rfl)|omega|assumption) only [decide_false, ↓vcD,vcE,↓vcG,vcF,evs,evP,evB,intsOf,fillC,Value.cells,pt,Value.oneCell',reduceIte,reduceCtorEq,Nat.reduceEqDiff,Nat.reduceAdd,Nat.reduceMul,Nat.reduceLT,Nat.reduceBEq,Nat.reduceLeDiff,Nat.reduceSub]
  refine ITri.cond (v:=false) rfl (fun h=>by cases h) (fun _=>?_); refine ITri.skip ?_; simp only [SeqQ_normal,BlkQ_normal]
  refine ITri.seq ?_
  refine ITri.seq ?_
  refine ITri.reg pok ?_; simp -implicitDefEqProofs (disch:=first|decide|exact of_eq_true (eq_true rfl)|omega|assumption) only [hE0,decide_false,Bool.not_false, ↓vcD,vcE,↓vcG,vcF,evs,evP,evB,intsOf,fillC,Value.cells,pt,Value.oneCell',reduceIte,reduceCtorEq,Nat.reduceEqDiff,Nat.reduceAdd,Nat.reduceMul,Nat.reduceLT,Nat.reduceBEq,Nat.reduceLeDiff,Nat.reduceSub]
  refine ITri.cond (v:=true) rfl (fun _=>?_) (fun h=>by cases h)
  refine ITri.seq ?_
  refine ITri.reg pok ?_; simp -implicitDefEqProofs (disch:=first|decide|exact of_eq_true (eq_true rfl)|omega|assumption) only [↓vcD,vcE,↓vcG,vcF,evs,evP,evB,intsOf,fillC,Value.cells,pt,Value.oneCell',reduceIte,reduceCtorEq,Nat.reduceEqDiff,Nat.reduceAdd,Nat.reduceMul,Nat.reduceLT,Nat.reduceBEq,Nat.reduceLeDiff,Nat.reduceSub]
  refine ⟨_,_,feed_b b3,?_⟩
  try simp -implicitDefEqProofs (disch:=first|decide|exact of_eq_true (eq_true rfl)|omega|assumption) only [↓vcD,vcE,↓vcG,vcF,evs,evP,evB,intsOf,fillC,Value.cells,pt,Value.oneCell',reduceIte,reduceCtorEq,Nat.reduceEqDiff,Nat.reduceAdd,Nat.reduceMul,Nat.reduceLT,Nat.reduceBEq,Nat.reduceLeDiff,Nat.reduceSub]
  have hq0:(((0:Nat):Int) = 0) = True:=eq_true rfl
  refine ITri.seq ?_
  refine ITri.reg pok ?_; simp -implicitDefEqProofs (disch:=first|decide|exact of_eq_true (eq_true rfl)|omega|assumption) only [↓vcD,vcE,↓vcG,vcF,evs,evP,evB,intsOf,fillC,Value.cells,pt,Value.oneCell',reduceIte,reduceCtorEq,Nat.reduceEqDiff,Nat.reduceAdd,Nat.reduceMul,Nat.reduceLT,Nat.reduceBEq,Nat.reduceLeDiff,Nat.reduceSub]
  refine ⟨_,_,rest_x rfl b3,?_⟩
  simp -implicitDefEqProofs (disch:=first|decide|exact of_eq_true (eq_true rfl)|omega|assumption) only [hq0,decide_true, ↓vcD,vcE,↓vcG,vcF,evs,evP,evB,intsOf,fillC,Value.cells,pt,Value.oneCell',reduceIte,reduceCtorEq,Nat.reduceEqDiff,Nat.reduceAdd,Nat.reduceMul,Nat.reduceLT,Nat.reduceBEq,Nat.reduceLeDiff,Nat.reduceSub]
  refine ⟨_,_,knownT,?_⟩
  try simp -implicitDefEqProofs (disch:=first|decide|exact of_eq_true (eq_true rfl)|omega|assumption) only [↓vcD,vcE,↓vcG,vcF,evs,evP,evB,intsOf,fillC,Value.cells,pt,Value.oneCell',reduceIte,reduceCtorEq,Nat.reduceEqDiff,Nat.reduceAdd,Nat.reduceMul,Nat.reduceLT,Nat.reduceBEq,Nat.reduceLeDiff,Nat.reduceSub]
  refine ITri.ret ?_; exact EndR.plain (by simp) (by rfl) (by rfl) (by rfl)
end
theorem pieces_c (n c m d : Nat) (bs cuts : List Int) (hn : bs.length = n) (hm : cuts.length = m) (hB : isB bs) (hC : ∀ x ∈ cuts, 0 ≤ x ∧ x ≤ 65535) :
    Fc Tryd.prog 12 [.slice (some ⟨1,0,none⟩) n c,.slice (some ⟨2,0,none⟩) m d] (Hp 3 [none,srB bs,srH cuts]) (.bool true) (Hp 3 [none,srB bs,srH cuts]):=by
 refine Fc.intro0 fn12 (by simp) rfl rfl ?_; simp only [argF]
 refine ITri.seq ?_
 refine ITri.reg pok ?_; simp -implicitDefEqProofs (disch:=first|decide|exact of_eq_true (eq_true rfl)|omega|assumption) only [↓vcD,vcE,↓vcG,vcF,evs,evP,evB,intsOf,fillC,Value.cells,pt,Value.oneCell',reduceIte,reduceCtorEq,Nat.reduceEqDiff,Nat.reduceAdd,Nat.reduceMul,Nat.reduceLT,Nat.reduceBEq,Nat.reduceLeDiff,Nat.reduceSub]
 refine ITri.seq ?_
 refine ITri.seq ?_
 refine ITri.atF (l2:=[(0,.slice (some ⟨1,0,none⟩) n c),(1,.slice (some ⟨2,0,none⟩) m d),(30,.bool (decide (2000 < (n:Int)∨40 < (m:Int))))]) (h2:=Hp 3 [none,srB bs,srH cuts]) ?_ ?_
 ·by_cases h:2000 < (n:Int)
  ·refine ITri.reg pok ?_; simp -implicitDefEqProofs (disch:=first|decide|exact of_eq_true (eq_true rfl)|omega|assumption) only [h,decide_true,true_or, ↓vcD,vcE,↓vcG,vcF,evs,evP,evB,intsOf,fillC,Value.cells,pt,Value.oneCell',reduceIte,reduceCtorEq,Nat.reduceEqDiff,Nat.reduceAdd,Nat.reduceMul,Nat.reduceLT,Nat.reduceBEq,Nat.reduceLeDiff,Nat.reduceSub]
   exact AtF.mk ⟨rfl,rfl,rfl,trivial⟩
  ·refine ITri.reg pok ?_; simp -implicitDefEqProofs (disch:=first|decide|exact of_eq_true (eq_true rfl)|omega|assumption) only [h,decide_false,false_or, ↓vcD,vcE,↓vcG,vcF,evs,evP,evB,intsOf,fillC,Value.cells,pt,Value.oneCell',reduceIte,reduceCtorEq,Nat.reduceEqDiff,Nat.reduceAdd,Nat.reduceMul,Nat.reduceLT,Nat.reduceBEq,Nat.reduceLeDiff,Nat.reduceSub]
   exact AtF.mk ⟨rfl,rfl,rfl,trivial⟩
 refine ITri.condD (by rfl) (fun h1=>?_) (fun h1=>?_)
 ·refine ITri.seq ?_
  refine ITri.reg pok ?_; simp -implicitDefEqProofs (disch:=first|decide|exact of_eq_true (eq_true rfl)|omega|assumption) only [↓vcD,vcE,↓vcG,vcF,evs,evP,evB,intsOf,fillC,Value.cells,pt,Value.oneCell',reduceIte,reduceCtorEq,Nat.reduceEqDiff,Nat.reduceAdd,Nat.reduceMul,Nat.reduceLT,Nat.reduceBEq,Nat.reduceLeDiff,Nat.reduceSub]
  refine ⟨_,_,knownT,?_⟩
  try simp -implicitDefEqProofs (disch:=first|decide|exact of_eq_true (eq_true rfl)|omega|assumption) only [↓vcD,vcE,↓vcG,vcF,evs,evP,evB,intsOf,fillC,Value.cells,pt,Value.oneCell',reduceIte,reduceCtorEq,Nat.reduceEqDiff,Nat.reduceAdd,Nat.reduceMul,Nat.reduceLT,Nat.reduceBEq,Nat.reduceLeDiff,Nat.reduceSub]
  refine ITri.ret ?_; exact EndR.plain (by simp) (by rfl) (by rfl) (by rfl)
 have hb:n≤2000:=by omega
 have hb2:m≤40:=by omega
 refine ITri.skip ?_; simp only [SeqQ_normal,BlkQ_normal]
 refine ITri.seq ?_
 refine ITri.reg pok ?_; simp -implicitDefEqProofs (disch:=first|decide|exact of_eq_true (eq_true rfl)|omega|assumption) only [↓vcD,vcE,↓vcG,vcF,evs,evP,evB,intsOf,fillC,Value.cells,pt,Value.oneCell',reduceIte,reduceCtorEq,Nat.reduceEqDiff,Nat.reduceAdd,Nat.reduceMul,Nat.reduceLT,Nat.reduceBEq,Nat.reduceLeDiff,Nat.reduceSub]
 refine ⟨_,_,new_x (Nat.le_refl 3),?_⟩
 try simp -implicitDefEqProofs (disch:=first|decide|exact of_eq_true (eq_true rfl)|omega|assumption) only [↓vcD,vcE,↓vcG,vcF,evs,evP,evB,intsOf,fillC,Value.cells,pt,Value.oneCell',reduceIte,reduceCtorEq,Nat.reduceEqDiff,Nat.reduceAdd,Nat.reduceMul,Nat.reduceLT,Nat.reduceBEq,Nat.reduceLeDiff,Nat.reduceSub]
 refine ⟨_,_,new_x (Nat.le_succ 3),?_⟩
 try simp -implicitDefEqProofs (disch:=first|decide|exact of_eq_true (eq_true rfl)|omega|assumption) only [↓vcD,vcE,↓vcG,vcF,evs,evP,evB,intsOf,fillC,Value.cells,pt,Value.oneCell',reduceIte,reduceCtorEq,Nat.reduceEqDiff,Nat.reduceAdd,Nat.reduceMul,Nat.reduceLT,Nat.reduceBEq,Nat.reduceLeDiff,Nat.reduceSub]
 refine ITri.seq ?_
 refine ITri.seq ?_
 refine ITri.reg pok ?_; simp -implicitDefEqProofs (disch:=first|decide|exact of_eq_true (eq_true rfl)|omega|assumption) only [↓vcD,vcE,↓vcG,vcF,evs,evP,evB,intsOf,fillC,Value.cells,pt,Value.oneCell',reduceIte,reduceCtorEq,Nat.reduceEqDiff,Nat.reduceAdd,Nat.reduceMul,Nat.reduceLT,Nat.reduceBEq,Nat.reduceLeDiff,Nat.reduceSub]
 refine gen_peq u_pst rfl ?_
 simp -implicitDefEqProofs (disch:=first|decide|exact of_eq_true (eq_true rfl)|omega|assumption) only [Bool.not_false, ↓vcD,vcE,↓vcG,vcF,evs,evP,evB,intsOf,fillC,Value.cells,pt,Value.oneCell',reduceIte,reduceCtorEq,Nat.reduceEqDiff,Nat.reduceAdd,Nat.reduceMul,Nat.reduceLT,Nat.reduceBEq,Nat.reduceLeDiff,Nat.reduceSub]
 refine gen_peq u_pst rfl ?_
 try simp -implicitDefEqProofs (disch:=first|decide|exact of_eq_true (eq_true rfl)|omega|assumption) only [↓vcD,vcE,↓vcG,vcF,evs,evP,evB,intsOf,fillC,Value.cells,pt,Value.oneCell',reduceIte,reduceCtorEq,Nat.reduceEqDiff,Nat.reduceAdd,Nat.reduceMul,Nat.reduceLT,Nat.reduceBEq,Nat.reduceLeDiff,Nat.reduceSub]
 refine ITri.cond (v:=false) rfl (fun h=>by cases h) (fun _=>?_); refine ITri.skip ?_; simp only [SeqQ_normal,BlkQ_normal]
 refine ITri.nameNil (kb:=3) (o:=0) rfl rfl (Nat.le_refl _) ?_
 refine ITri.nameNil (kb:=4) (o:=0) rfl rfl (by decide) ?_
 refine ITri.seq ?_
 obtain ⟨L0,hL0⟩ : ∃ L0:List (Option AObj),L0 = [none,srB bs,srH cuts,strB (sO 5 0) false,strB (sO 6 0) false,opR [],opR []]:=⟨_,rfl⟩
 rw [show nnAt 4 0 ⟨[.slice none 0 0,.bool false],1,false⟩ (nnAt 3 0 ⟨[.slice none 0 0,.bool false],1,false⟩ [none,srB bs,srH cuts,strB (.slice none 0 0) false,strB (.slice none 0 0) false]) = L0 from hL0.symm]
 have ll:L0.length = 7:=by rw [hL0]; rfl
 have hb0:L0[1]? = some (srB bs):=by rw [hL0]; rfl
 refine ITri.reg pok ?_; simp -implicitDefEqProofs (disch:=first|decide|exact of_eq_true (eq_true rfl)|omega|assumption) only [↓vcD,vcE,↓vcG,vcF,evs,evP,evB,intsOf,fillC,Value.cells,pt,Value.oneCell',reduceIte,reduceCtorEq,Nat.reduceEqDiff,Nat.reduceAdd,Nat.reduceMul,Nat.reduceLT,Nat.reduceBEq,Nat.reduceLeDiff,Nat.reduceSub]
 refine ⟨_,_,ownB_f hn (by omega) (sees0 rfl (by omega)) (get_hq rfl (by rw [hb0]; rfl)),?_⟩
 simp -implicitDefEqProofs (disch:=first|decide|exact of_eq_true (eq_true rfl)|omega|assumption) only [news_c,news_n, ↓vcD,vcE,↓vcG,vcF,evs,evP,evB,intsOf,fillC,Value.cells,pt,Value.oneCell',reduceIte,reduceCtorEq,Nat.reduceEqDiff,Nat.reduceAdd,Nat.reduceMul,Nat.reduceLT,Nat.reduceBEq,Nat.reduceLeDiff,Nat.reduceSub]
 have l1:(L0++[opR bs]).length = 8:=by rw [List.length_append,ll]; rfl
 obtain ⟨v,e,L',k',fs,F,T⟩:=feed_x (wl:=3) (L:=L0++[opR bs]) (kb:=3) (k:=5) (ws:=[]) (xs:=bs) (sv:=sO L0.length n) ⟨Nat.le_refl _,by omega,by rw [hL0]; rfl,by rw [hL0]; rfl,fun x hx=>by cases hx⟩ (by omega) hB (by omega) (by decide) ⟨_,_,by rw [hn]⟩ (fun h=>⟨L0.length,0,openB,by rw [hn],cells_all (by rw [List.getElem?_append_right (Nat.le_refl _),Nat.sub_self]; rfl) (by rw [rows_len])⟩)
 rw [List.nil_append] at F
 refine ⟨_,_,T,?_⟩
 try simp -implicitDefEqProofs (disch:=first|decide|exact of_eq_true (eq_true rfl)|omega|assumption) only [↓vcD,vcE,↓vcG,vcF,evs,evP,evB,intsOf,fillC,Value.cells,pt,Value.oneCell',reduceIte,reduceCtorEq,Nat.reduceEqDiff,Nat.reduceAdd,Nat.reduceMul,Nat.reduceLT,Nat.reduceBEq,Nat.reduceLeDiff,Nat.reduceSub]
 have hl' : 8≤L'.length:=by have:=F.len; omega
 have hb1:L'[1]? = some (srB bs):=by rw [F.old 1 (by omega) (by decide) (by decide),hL0]; rfl
 refine ITri.seq ?_
 refine ITri.reg pok ?_; simp -implicitDefEqProofs (disch:=first|decide|exact of_eq_true (eq_true rfl)|omega|assumption) only [apd_get,apd_get0,apd_set0,apd_set,List.length_append,List.append_assoc,Nat.add_assoc, ↓vcD,vcE,↓vcG,vcF,evs,evP,evB,intsOf,fillC,Value.cells,pt,Value.oneCell',reduceIte,reduceCtorEq,Nat.reduceEqDiff,Nat.reduceAdd,Nat.reduceMul,Nat.reduceLT,Nat.reduceBEq,Nat.reduceLeDiff,Nat.reduceSub]
 refine ⟨_,_,ownB_f hn (by omega) (sees0 rfl (by rw [List.length_append]; omega)) (get_hq rfl (by rw [List.getElem?_append_left (by omega),hb1]; rfl)),?_⟩
 simp -implicitDefEqProofs (disch:=first|decide|exact of_eq_true (eq_true rfl)|omega|assumption) only [news_c,news_n,apd_get,apd_get0,apd_set0,apd_set,List.length_append,List.append_assoc,Nat.add_assoc, ↓vcD,vcE,↓vcG,vcF,evs,evP,evB,intsOf,fillC,Value.cells,pt,Value.oneCell',reduceIte,reduceCtorEq,Nat.reduceEqDiff,Nat.reduceAdd,Nat.reduceMul,Nat.reduceLT,Nat.reduceBEq,Nat.reduceLeDiff,Nat.reduceSub]
 obtain ⟨M,hM⟩ : ∃ M:List (Option AObj),M = L'++[some (.cells ⟨[],2,false⟩),opR bs]:=⟨_,rfl⟩
 rw [← hM]
 have hMl:M.length = L'.length + 2:=by rw [hM,List.length_append]; rfl
 have hMo : ∀ j,j < L'.length→M[j]? = L'[j]?:=fun j hj=>by rw [hM,List.getElem?_append_left hj]
 have hold : ∀ j,j < L'.length→j < 8→j≠3→j≠5→L'[j]? = (L0++[opR bs])[j]?:=fun j h1 h2 h3 h4=>F.old j (by omega) h3 h4
 have I0:PcI n m bs L' 4 6 (L'.length + 1) ⟨0,[],0,0,L'.length,0,L'.length + 1,0,openB,6,M⟩:=by
  refine ⟨Nat.zero_le _,fun h _=>by have h:0 = m + 1:=h; omega,fun j hj _ _=>hMo j hj,by show L'.length + 1 < M.length; omega,?_,by show 6≠L'.length + 1; omega,Nat.le_refl _,fun _=>⟨rfl,rfl⟩,Nat.zero_le _,⟨Nat.le_refl _,rfl,false,?_,.inr ⟨rfl,rfl⟩⟩,fun f hf=>(by cases hf),.inl rfl,fun _ f hf=>(by cases hf),fun _=>?_,fun h=>absurd rfl h⟩
  ·show M[L'.length + 1]? = _
   rw [hM,List.getElem?_append_right (by omega),Nat.add_sub_cancel_left]
   rfl
  ·show M[L'.length]? = _
   rw [hM,List.getElem?_append_right (Nat.le_refl _),Nat.sub_self]
   rfl
  ·show StO 3 M 4 6 ((bs.take 0).drop (fdF (bs.take 0) 0).2.1)∧(fdF (bs.take 0) 0).2.2 = 60∧(fdF (bs.take 0) 0).1 = _
   rw [List.take_zero,fdF_e]
   refine ⟨⟨by decide,by decide,?_,?_,fun x hx=>by cases hx⟩,rfl,rfl⟩
   ·rw [hMo 4 (by omega),hold 4 (by omega) (by decide) (by decide) (by decide),hL0]; rfl
   ·rw [hMo 6 (by omega),hold 6 (by omega) (by decide) (by decide) (by decide),hL0]; rfl
 refine ITri.seq ?_
 refine ITri.seq ?_
 refine ITri.reg pok ?_; simp -implicitDefEqProofs (disch:=first|decide|exact of_eq_true (eq_true rfl)|omega|assumption) only [↓vcD,vcE,↓vcG,vcF,evs,evP,evB,intsOf,fillC,Value.cells,pt,Value.oneCell',reduceIte,reduceCtorEq,Nat.reduceEqDiff,Nat.reduceAdd,Nat.reduceMul,Nat.reduceLT,Nat.reduceBEq,Nat.reduceLeDiff,Nat.reduceSub]
 refine ITri.block ?_
 refine ITri.loop (frPc n c m d 3 4 v e) (fun _=>[]) (fun s=>Hp 3 s.M) (PcI n m bs L' 4 6 (L'.length + 1)) (fun s=>m + 1 - s.i) _ I0 (Wk.sub ⟨rfl,rfl,rfl,rfl,rfl,rfl,rfl,rfl,rfl,rfl,trivial⟩) fun s I=>?_
 refine ITri.seq ?_
 refine ITri.seq ?_
 by_cases hgo:s.i≤m∧s.f = 0
 ·obtain ⟨hi,hf⟩:=hgo
  have hi' : (s.i:Int)≤m:=by omega
  refine ITri.reg pok ?_; simp -implicitDefEqProofs (disch:=first|decide|exact of_eq_true (eq_true rfl)|omega|assumption) only [hi',hf,decide_true, ↓vcD,vcE,↓vcG,vcF,evs,evP,evB,intsOf,fillC,Value.cells,pt,Value.oneCell',reduceIte,reduceCtorEq,Nat.reduceEqDiff,Nat.reduceAdd,Nat.reduceMul,Nat.reduceLT,Nat.reduceBEq,Nat.reduceLeDiff,Nat.reduceSub]
  refine ITri.cond (v:=true) rfl (fun _=>?_) (fun h=>by cases h)
  refine ITri.skip ?_; simp only [SeqQ_normal,BlkQ_normal]
  refine ITri.weak (l':=frPc n c m d 3 4 v e s) (ms':=[]) (h':=Hp 3 s.M) (Wk.sub ⟨rfl,rfl,rfl,rfl,rfl,rfl,rfl,by rw [hf]; rfl,rfl,rfl,trivial⟩) ?_
  refine pieces_round I hn hm hB hC hb hb2 (by rw [hold 0 (by omega) (by decide) (by decide) (by decide),hL0]; rfl) (by rw [hold 2 (by omega) (by decide) (by decide) (by decide),hL0]; rfl) (by decide) (by decide) (by omega) (by omega) hi hf fun s' I' hs'=>?_
  exact LoopQ.next s' I' (by show m + 1 - s'.i < m + 1 - s.i; omega) (Wk.sub ⟨rfl,rfl,rfl,rfl,rfl,rfl,rfl,rfl,rfl,rfl,trivial⟩)
 ·refine ITri.one [(0,.slice (some ⟨1,0,none⟩) n c),(1,.slice (some ⟨2,0,none⟩) m d),(5,pt 3),(6,pt 4),(7,v),(8,.int .i64 e),(9,.slice (some ⟨s.kg,0,none⟩) s.G.length s.cg),(10,.int .i64 s.f),(11,.slice (some ⟨s.k,s.o,none⟩) (n - s.P) s.c),(12,.int .i64 s.i),(57,.bool false)] ?_ ?_
  ·by_cases hi:s.i≤m
   ·have hi' : (s.i:Int)≤m:=by omega
    have hf : ¬ s.f = 0:=fun h=>hgo ⟨hi,h⟩
    refine ITri.reg pok ?_; simp -implicitDefEqProofs (disch:=first|decide|exact of_eq_true (eq_true rfl)|omega|assumption) only [hi',hf,decide_true,decide_false, ↓vcD,vcE,↓vcG,vcF,evs,evP,evB,intsOf,fillC,Value.cells,pt,Value.oneCell',reduceIte,reduceCtorEq,Nat.reduceEqDiff,Nat.reduceAdd,Nat.reduceMul,Nat.reduceLT,Nat.reduceBEq,Nat.reduceLeDiff,Nat.reduceSub]
   ·have hi' : ¬ (s.i:Int)≤m:=by omega
    refine ITri.reg pok ?_; simp -implicitDefEqProofs (disch:=first|decide|exact of_eq_true (eq_true rfl)|omega|assumption) only [hi',decide_false, ↓vcD,vcE,↓vcG,vcF,evs,evP,evB,intsOf,fillC,Value.cells,pt,Value.oneCell',reduceIte,reduceCtorEq,Nat.reduceEqDiff,Nat.reduceAdd,Nat.reduceMul,Nat.reduceLT,Nat.reduceBEq,Nat.reduceLeDiff,Nat.reduceSub]
  refine ITri.cond (v:=false) rfl (fun h=>by cases h) (fun _=>?_)
  refine ITri.exit ?_; try simp -implicitDefEqProofs (disch:=first|decide|exact of_eq_true (eq_true rfl)|omega|assumption) only [↓vcD,vcE,↓vcG,vcF,evs,evP,evB,intsOf,fillC,Value.cells,pt,Value.oneCell',reduceIte,reduceCtorEq,Nat.reduceEqDiff,Nat.reduceAdd,Nat.reduceMul,Nat.reduceLT,Nat.reduceBEq,Nat.reduceLeDiff,Nat.reduceSub]
  have hI:=I.hi
  have hlen:=I.got.lt
  have hlen2:=I.got.1
  have key:s.f = e∧s.G.map (·.2) = (fdF bs 0).1∧((fdF bs 0).2.2 = 60→s.M[4]? = some (strB (.slice (some ⟨s.k2,0,none⟩) (n - (fdF bs 0).2.1) openB) false))∧((fdF bs 0).2.2≠60→s.M[4]? = some (strB (.slice none 0 0) true)):=by
   by_cases hf:s.f = 0
   ·have hP := I.hiP (by
      have : ¬ s.i≤m:=fun h=>hgo ⟨h,hf⟩
      omega) hf
    obtain ⟨S,r60,rfs⟩:=I.run hf
    rw [hP,List.take_of_length_le (show bs.length≤n by omega)] at S r60 rfs
    refine ⟨?_,rfs.symm,fun _=>?_,fun h=>absurd r60 h⟩
    ·rw [hf,F.err,if_pos r60]
    ·rw [S.box,List.length_drop,hn]
   ·obtain ⟨b1,b2,b3,b4⟩:=I.brk hf
    have h6:(fdF bs 0).2.2≠60:=by rw [b2]; exact b4
    refine ⟨?_,b3.symm,fun h=>absurd h h6,fun _=>b1⟩
    rw [F.err,if_neg h6,b2]
  obtain ⟨kf,kG,kok,kbk⟩:=key
  have h3:s.M[3]? = L'[3]?:=I.old 3 (by omega) (by decide) (by decide)
  have hRv:RwV 8 s.M v fs.length 2 (fcs fs):=by
   have h:=F.rv
   rw [l1] at h
   exact h.mono fun k o hk ho=>by rw [I.old k (get_lt ho) (by omega) (by omega)]; exact ho
  have hFd:FD 8 s.M fs:=by
   have h:=F.fd
   rw [l1] at h
   exact h.mono fun k xs hk ho=>by rw [I.old k (get_lt ho) (by omega) (by omega)]; exact ho
  refine ITri.weak (l':=[(0,.slice (some ⟨1,0,none⟩) n c),(5,pt 3),(6,pt 4),(7,v),(8,.int .i64 e),(9,.slice (some ⟨s.kg,0,none⟩) s.G.length s.cg),(10,.int .i64 e)]) (ms':=[]) (h':=Hp 3 s.M) (Wk.sub ⟨rfl,rfl,rfl,rfl,rfl,rfl,by rw [← kf]; rfl,trivial⟩) ?_
  refine pieces_r (M0:=L') (k1:=k') (k2:=s.k2) hn hB hb ?_ ?_ hRv hFd F.err F.res I.got I.fd kG (fun h=>⟨?_,kok h⟩) (fun h=>⟨?_,kbk h⟩)
  ·rw [I.old 0 (by omega) (by decide) (by decide),hold 0 (by omega) (by decide) (by decide) (by decide),hL0]; rfl
  ·rw [I.old 1 (by omega) (by decide) (by decide),hb1]
  ·rw [h3,(F.cut h).2.1,hn]
  ·rw [h3,F.brk h]
end Go.Proofs.YtgjokhodccacoaaDoor
