import Derived.Test.YtgjokhodccacoaaDoorSRecI2
set_option linter.unusedSimpArgs false
set_option linter.unusedVariables false
namespace Go.Proofs.YtgjokhodccacoaaDoor
open Go.RowKit Go.Vm
set_option maxRecDepth 100000
section
variable {wl kr kw bb j c:Nat} {a:Option Addr} {L L1 M:List (Option AObj)} {ws:List Int} {s0:RfS}
theorem rget_e (hwL:wl≤L.length):Fc Tryd.prog 26 [.slice a 0 c,.int .i64 0] (Hp wl L) (.tuple #[.agg #[.int .i64 0,.slice none 0 0],.int .i64 0,.int .i64 60]) (Hp wl (L++[some (.cells ⟨[.int .i64 0,.slice none 0 0],1,false⟩)])):=by
 have hg:(L++[some (AObj.cells ⟨[.int .i64 0,.slice none 0 0],1,false⟩)])[L.length]? = some (some (AObj.cells ⟨[.int .i64 0,.slice none 0 0],1,false⟩)):=by
  rw [List.getElem?_append_right (Nat.le_refl _),Nat.sub_self]
  rfl
 refine Fc.introX fn26 (by simp) (fun hw=>grow_hq (by simp) (by have hw:wl≤L.length:=hw; rw [List.take_append_of_le_length hw])) ?_; simp only [argF]
 obtain ⟨L2,hL2⟩ : ∃ L2,L++[some (AObj.cells ⟨[.int .i64 0,.slice none 0 0],1,false⟩)] = L2:=⟨_,rfl⟩
 rw [hL2] at hg
 have hn0 : ¬ (((0:Nat):Int) < 0):=by decide
 have hn1 : ¬ (30000 < ((0:Nat):Int)):=by decide
 have hn2:((0:Int) = ((0:Nat):Int)) = True:=eq_true rfl
 have hn3 : ¬ ((0:Int) < 0):=by decide
 have hn4 : ¬ ((0:Int) < ((0:Nat):Int)):=by decide
 refine ITri.seq ?_
 refine ITri.reg pok ?_; simp -implicitDefEqProofs (disch:=first|decide|exact of_eq_true (eq_true rfl)|omega|assumption) only [apd_get,apd_get0,apd_set0,apd_set,List.length_append,List.append_assoc,Nat.add_assoc,hwL,hL2, ↓vcD,vcE,↓vcG,vcF,evs,evP,evB,intsOf,fillC,Value.cells,pt,Value.oneCell',reduceIte,reduceCtorEq,Nat.reduceEqDiff,Nat.reduceAdd,Nat.reduceMul,Nat.reduceLT,Nat.reduceBEq,Nat.reduceLeDiff,Nat.reduceSub]
 refine ITri.seq ?_
 refine ITri.seq ?_
 refine ITri.reg pok ?_; simp -implicitDefEqProofs (disch:=first|decide|exact of_eq_true (eq_true rfl)|omega|assumption) only [hn1,decide_false, ↓vcD,vcE,↓vcG,vcF,evs,evP,evB,intsOf,fillC,Value.cells,pt,Value.oneCell',reduceIte,reduceCtorEq,Nat.reduceEqDiff,Nat.reduceAdd,Nat.reduceMul,Nat.reduceLT,Nat.reduceBEq,Nat.reduceLeDiff,Nat.reduceSub]
 refine ITri.cond (v:=false) rfl (fun h=>by cases h) (fun _=>?_); refine ITri.skip ?_; simp only [SeqQ_normal,BlkQ_normal]
 refine ITri.seq ?_
 refine ITri.seq ?_
 refine ITri.reg pok ?_; simp -implicitDefEqProofs (disch:=first|decide|exact of_eq_true (eq_true rfl)|omega|assumption) only [hn3,hn4,decide_false, ↓vcD,vcE,↓vcG,vcF,evs,evP,evB,intsOf,fillC,Value.cells,pt,Value.oneCell',reduceIte,reduceCtorEq,Nat.reduceEqDiff,Nat.reduceAdd,Nat.reduceMul,Nat.reduceLT,Nat.reduceBEq,Nat.reduceLeDiff,Nat.reduceSub]
 refine ITri.cond (v:=false) rfl (fun h=>by cases h) (fun _=>?_); refine ITri.skip ?_; simp only [SeqQ_normal,BlkQ_normal]
 refine ITri.seq ?_
 refine ITri.seq ?_
 refine ITri.reg pok ?_; simp -implicitDefEqProofs (disch:=first|decide|exact of_eq_true (eq_true rfl)|omega|assumption) only [hn2,decide_true, ↓vcD,vcE,↓vcG,vcF,evs,evP,evB,intsOf,fillC,Value.cells,pt,Value.oneCell',reduceIte,reduceCtorEq,Nat.reduceEqDiff,Nat.reduceAdd,Nat.reduceMul,Nat.reduceLT,Nat.reduceBEq,Nat.reduceLeDiff,Nat.reduceSub]
 refine ITri.cond (v:=true) rfl (fun _=>?_) (fun h=>by cases h)
 refine ITri.seq ?_
 refine ITri.reg pok ?_; simp -implicitDefEqProofs (disch:=first|decide|exact of_eq_true (eq_true rfl)|omega|assumption) only [hg,hwL,set_id hg, ↓vcD,vcE,↓vcG,vcF,evs,evP,evB,intsOf,fillC,Value.cells,pt,Value.oneCell',reduceIte,reduceCtorEq,Nat.reduceEqDiff,Nat.reduceAdd,Nat.reduceMul,Nat.reduceLT,Nat.reduceBEq,Nat.reduceLeDiff,Nat.reduceSub]
 refine ITri.ret ?_
 exact EndX.mk (by simp) (resF_agg (cs:=[.int .i64 0,.slice none 0 0]) 2 rfl (by kernel_rfl) (cells_all hg rfl) (resF_tmp rfl (resF_tmp rfl resF_nil))) rfl rfl
abbrev stV (br:Bool) (wv:Value):List Value:=[.bool false,.bool br,wv]
def WtV (b:Nat) (M:List (Option AObj)) (wv:Value) (ys:List Int):Prop :=
 (∃ a c,wv = .slice a ys.length c)∧(ys.length≠0→∃ k o c zs,wv = .slice (some ⟨k,o,none⟩) ys.length c∧b≤k∧M[k]? = some (opR zs)∧zs.drop o = ys∧o≤zs.length)
structure RfQ (L:List (Option AObj)) (ws:List Int) (st:List Value) (v:Value) (e:Int) (L' : List (Option AObj)) (fs:List FrT):Prop where
 old : ∀ i,i < L.length→L'[i]? = L[i]?
 len:L.length≤L'.length
 rv:RwV L.length L' v fs.length 2 (fcs fs)
 fd:FD L.length L' fs
 res:fs.map (·.2) = (fdF ws 0).1
 err:e = if (fdF ws 0).2.2 = 60 then 0 else (fdF ws 0).2.2
 cut:(fdF ws 0).2.2 = 60→∃ wv,st = stV false wv∧WtV L.length L' wv (ws.drop (fdF ws 0).2.1)
 brk:(fdF ws 0).2.2≠60→st = stV true (.slice none 0 0)
theorem rf_end {s : RfS} {E : Int} {X : List (Option AObj)} {st : List Value} (I : RfI L1 kw ws j s) (he : fdF ws s.at_ = ([], s.at_, E)) (hLk : L.length ≤ kr) (hk1 : kr < L1.length) (hkw : L1.length ≤ kw) (hLL : ∀ i, i < L.length → L1[i]? = L[i]?) (hX : ∀ i, i < s.M.length → i ≠ kr → X[i]? = s.M[i]?) (hl : s.M.length ≤ X.length)
    (hst:st = if E = 60 then stV false (.slice (some ⟨s.kw,s.o,none⟩) (ws.length - s.at_) s.c) else stV true (.slice none 0 0)) :
    RfQ L ws st (.slice (some ⟨s.kg,0,none⟩) s.fs.length s.cg) (if E = 60 then 0 else E) X s.fs:=by
 obtain ⟨le,old,len,got,wts,fd,res,fin,num,fl⟩:=I
 rw [he] at res fin num
 have e2:(fdF ws 0).2 = (s.at_,E):=fin.symm
 have hkg:=got.1
 have hkl:=got.lt
 refine ⟨fun i hi=>?_,by omega,.inr ⟨s.kg,s.cg,rfl,?_⟩,fun g hg=>?_,by rw [← res,List.append_nil],by rw [e2],fun h=>?_,fun h=>?_⟩
 ·rw [hX i (by omega) (by omega),old i (by omega),hLL i hi]
 ·have g:=got.mono (hX s.kg hkl (by omega))
  exact ⟨by omega,g.2⟩
 ·obtain ⟨g1,g2⟩:=fd g hg
  refine ⟨by omega,?_⟩
  rw [hX g.1 (get_lt g2) (by omega)]
  exact g2
 ·rw [e2] at h ⊢
  have h:E = 60:=h
  rw [if_pos h] at hst
  have hdl:(ws.drop s.at_).length = ws.length - s.at_:=List.length_drop
  refine ⟨_,hst,⟨_,_,by rw [hdl]⟩,fun hne=>?_⟩
  rw [hdl] at hne
  obtain ⟨h1,h2,h3,h4⟩:=wts (by omega)
  have hne2:kw≠kr:=by omega
  refine ⟨s.kw,s.o,s.c,ws,by rw [hdl],?_,?_,by rw [h2],by rw [h2]; exact le⟩
  ·rw [h1]; omega
  ·rw [h1,hX kw (get_lt h4) hne2]
   exact h4
 ·rw [e2] at h
  have h:E≠60:=h
  rw [if_neg h] at hst
  exact hst
theorem rf_l (hB : isB ws) (hl : ws.length ≤ 30000) (hLk : L.length ≤ kr) (hk1 : kr < L1.length) (hkw : L1.length ≤ kw) (hLL : ∀ i, i < L.length → L1[i]? = L[i]?) (hwL : wl ≤ L.length) (hcell : L1[kr]? = some (some (.cells ⟨stV false (.slice none 0 0), 1, false⟩))) (I0 : RfI L1 kw ws 0 s0) :
    ∃ st v e L' fs,RfQ L ws st v e L' fs∧ITri Tryd.prog 52 none bb ir43_21 (frRf kr ws s0) [] (Hp wl s0.M) (EndX Tryd.prog [.cell 4 66,.tmp 5,.tmp 6] (.tuple #[.agg ⟨st⟩,v,.int .i64 e]) (Hp wl L')):=by
 obtain ⟨f,f0,f1,f2⟩:=seq_ex (RfI L1 kw ws) (fun _ s s'=>ITri Tryd.prog 52 none bb ir43_19 (frRf kr ws s) [] (Hp wl s.M) (AtF (frRf kr ws s') (Hp wl s'.M))) (fdF ws 0).1.length _ I0 fun j s hj I=>rf_round I hj hB hl (by omega) (by omega)
 have I:=f1 _ (Nat.le_refl _)
 generalize hN:(fdF ws 0).1.length = N at *
 have fin : ∃ st v e L' fs,RfQ L ws st v e L' fs∧ITri Tryd.prog 52 none bb ir43_19 (frRf kr ws (f N)) [] (Hp wl (f N).M) (LoopQ 52 bb none (fun j:Nat=>frRf kr ws (f j)) (fun _=>[]) (fun j=>Hp wl (f j).M) (fun j=>j≤N) (fun j=>N - j) N (BlkQ 0 (EndX Tryd.prog [.cell 4 66,.tmp 5,.tmp 6] (.tuple #[.agg ⟨st⟩,v,.int .i64 e]) (Hp wl L')))):=by
  generalize f N = s at *
  have le:=I.le
  have old:=I.old
  have len:=I.len
  have num:=I.num
  have wts:=I.wts
  have hnil:(fdF ws s.at_).1 = []:=List.eq_nil_of_length_eq_zero (by omega)
  have he:(getR ws s.at_).2.2.2≠0:=fun e=>by
   obtain ⟨nx,en,b1,b2,b3⟩:=getR_ok hl le e
   rw [fdF,dif_pos ⟨e,by rw [en]; omega,by rw [en]; omega⟩] at hnil
   cases hnil
  have hfd:=fdF_err he
  generalize hE:(getR ws s.at_).2.2.2 = E at *
  have hget : ∃ (x:Option AObj) (pa:Option Addr) (pc:Nat),Fc Tryd.prog 26 [.slice (some ⟨s.kw,s.o,none⟩) (ws.length - s.at_) s.c,.int .i64 0] (Hp wl s.M) (.tuple #[.agg #[.int .i64 0,.slice pa 0 pc],.int .i64 0,.int .i64 E]) (Hp wl (s.M++[x])):=by
   by_cases hlt:s.at_ < ws.length
   ·obtain ⟨h1,h2,h3,h4⟩:=wts hlt
    obtain ⟨g1,g2,g3,g4⟩:=getR_drop (xs:=ws) (a:=s.at_) (p:=0) hl (by omega)
    rw [Nat.add_zero,hE] at g3
    obtain ⟨p1,p2,p3⟩:=getR_bad (ws:=ws.drop s.at_) (at_:=((0:Nat):Int)) (by rw [← g3]; exact he)
    have hdl:(ws.drop s.at_).length = ws.length - s.at_:=List.length_drop
    have g1:=rget_p (k:=s.kw) (sz:=1) (op:=true) (o:=s.o) (c:=s.c) (xs:=ws.drop s.at_) (cs:=rows eB ws) (h:=Hp wl s.M) ((0:Nat):Int) hdl (fun x hx=>hB x (List.mem_of_mem_drop hx)) (by omega) h3 (sees0 rfl (by omega)) (get_hq rfl (by rw [h1,h4]; rfl)) (by
     have:=rows_drop (f:=eB) (xs:=ws) (i:=s.at_)
     rw [Nat.mul_one] at this
     rw [h2,this]
     exact List.prefix_refl _) (by rw [rows_len]; omega)
    unfold gtV at g1
    rw [p1,p2,p3,← g3,Hq_news] at g1
    exact ⟨_,_,_,g1⟩
   ·have h0:ws.length - s.at_ = 0:=by omega
    rw [h0]
    have e60:E = 60:=by
     rw [← hE,show s.at_ = ws.length by omega]
     rw [getR_frF hl (Nat.le_refl _)]
     unfold frF
     rw [if_pos (Nat.le_refl _)]
    rw [e60]
    exact ⟨_,_,_,rget_e (by omega)⟩
  obtain ⟨x,pa,pc,g1⟩:=hget
  obtain ⟨M2,hM2⟩ : ∃ M2,s.M++[x,some (AObj.cells ⟨[.int .i64 0,.slice pa 0 pc],1,false⟩)] = M2:=⟨_,rfl⟩
  have l2:M2.length = s.M.length + 2:=by rw [← hM2,List.length_append]; rfl
  have o2 : ∀ i,i < s.M.length→M2[i]? = s.M[i]?:=fun i hi=>by rw [← hM2,List.getElem?_append_left hi]
  have c2:M2[kr]? = some (some (.cells ⟨stV false (.slice none 0 0),1,false⟩)):=by rw [o2 _ (by omega),old _ hk1]; exact hcell
  have hM5:wl≤s.M.length + 1:=by omega
  have hkr:wl≤kr:=by omega
  have rd : ∀ {Q:AEx→Fr→List Nat→AH→Prop},ITri Tryd.prog 52 none bb ir43_17 [(4,pt kr),(7,.slice (some ⟨s.kw,s.o,none⟩) (ws.length - s.at_) s.c),(8,.slice (some ⟨s.kg,0,none⟩) s.fs.length s.cg),(11,.int .i64 E)] [] (Hp wl M2) (BlkQ 1 Q)→ITri Tryd.prog 52 none bb ir43_19 (frRf kr ws s) [] (Hp wl s.M) Q:=by
   intro Q q
   refine ITri.block ?_
   refine ITri.seq ?_
   refine ITri.reg pok ?_; simp -implicitDefEqProofs (disch:=first|decide|exact of_eq_true (eq_true rfl)|omega|assumption) only [↓vcD,vcE,↓vcG,vcF,evs,evP,evB,intsOf,fillC,Value.cells,pt,Value.oneCell',reduceIte,reduceCtorEq,Nat.reduceEqDiff,Nat.reduceAdd,Nat.reduceMul,Nat.reduceLT,Nat.reduceBEq,Nat.reduceLeDiff,Nat.reduceSub]
   refine ⟨_,_,g1,?_⟩
   simp -implicitDefEqProofs (disch:=first|decide|exact of_eq_true (eq_true rfl)|omega|assumption) only [apd_get,apd_get0,apd_set0,apd_set,List.length_append,List.append_assoc,Nat.add_assoc,hM5,hM2, ↓vcD,vcE,↓vcG,vcF,evs,evP,evB,intsOf,fillC,Value.cells,pt,Value.oneCell',reduceIte,reduceCtorEq,Nat.reduceEqDiff,Nat.reduceAdd,Nat.reduceMul,Nat.reduceLT,Nat.reduceBEq,Nat.reduceLeDiff,Nat.reduceSub]
   exact ITri.weak (l':=[(4,pt kr),(7,.slice (some ⟨s.kw,s.o,none⟩) (ws.length - s.at_) s.c),(8,.slice (some ⟨s.kg,0,none⟩) s.fs.length s.cg),(11,.int .i64 E)]) (ms':=[]) (h':=Hp wl M2) (Wk.sub ⟨rfl,rfl,rfl,rfl,trivial⟩) q
  have hset : ∀ y:Option AObj,(M2.set kr y)[kr]? = some y:=fun y=>List.getElem?_set_self (by omega)
  have hXs : ∀ (y:Option AObj) (i:Nat),i < s.M.length→i≠kr→(M2.set kr y)[i]? = s.M[i]?:=fun y i h1 h2=>by rw [List.getElem?_set_ne (by omega),o2 i h1]
  have hXl : ∀ y:Option AObj,s.M.length≤(M2.set kr y).length:=fun y=>by rw [List.length_set]; omega
  by_cases h60:E = 60
  ·have F:=rf_end (X:=M2.set kr (some (.cells ⟨stV false (.slice (some ⟨s.kw,s.o,none⟩) (ws.length - s.at_) s.c),1,false⟩))) I hfd hLk hk1 hkw hLL (hXs _) (hXl _) rfl
   rw [if_pos h60,if_pos h60] at F
   refine ⟨_,_,_,_,_,F,rd ?_⟩
   refine ITri.seq ?_
   refine ITri.seq ?_
   refine ITri.reg pok ?_; simp -implicitDefEqProofs (disch:=first|decide|exact of_eq_true (eq_true rfl)|omega|assumption) only [h60,decide_true, ↓vcD,vcE,↓vcG,vcF,evs,evP,evB,intsOf,fillC,Value.cells,pt,Value.oneCell',reduceIte,reduceCtorEq,Nat.reduceEqDiff,Nat.reduceAdd,Nat.reduceMul,Nat.reduceLT,Nat.reduceBEq,Nat.reduceLeDiff,Nat.reduceSub]
   refine ITri.cond (v:=true) rfl (fun _=>?_) (fun h=>by cases h)
   refine ITri.seq ?_
   refine ITri.reg pok ?_; simp -implicitDefEqProofs (disch:=first|decide|exact of_eq_true (eq_true rfl)|omega|assumption) only [c2,hkr, ↓vcD,vcE,↓vcG,vcF,evs,evP,evB,intsOf,fillC,Value.cells,pt,Value.oneCell',reduceIte,reduceCtorEq,Nat.reduceEqDiff,Nat.reduceAdd,Nat.reduceMul,Nat.reduceLT,Nat.reduceBEq,Nat.reduceLeDiff,Nat.reduceSub]
   refine ITri.ret ?_
   exact EndX.mk (by simp) (resF_agg (cs:=stV false (.slice (some ⟨s.kw,s.o,none⟩) (ws.length - s.at_) s.c)) 3 rfl (by kernel_rfl) (cells_all (hset _) rfl) (resF_tmp rfl (resF_tmp rfl resF_nil))) rfl rfl
  ·have F:=rf_end (X:=M2.set kr (some (.cells ⟨stV true (.slice none 0 0),1,false⟩))) I hfd hLk hk1 hkw hLL (hXs _) (hXl _) rfl
   rw [if_neg h60,if_neg h60] at F
   refine ⟨_,_,_,_,_,F,rd ?_⟩
   refine ITri.seq ?_
   refine ITri.seq ?_
   refine ITri.reg pok ?_; simp -implicitDefEqProofs (disch:=first|decide|exact of_eq_true (eq_true rfl)|omega|assumption) only [h60,decide_false, ↓vcD,vcE,↓vcG,vcF,evs,evP,evB,intsOf,fillC,Value.cells,pt,Value.oneCell',reduceIte,reduceCtorEq,Nat.reduceEqDiff,Nat.reduceAdd,Nat.reduceMul,Nat.reduceLT,Nat.reduceBEq,Nat.reduceLeDiff,Nat.reduceSub]
   refine ITri.cond (v:=false) rfl (fun h=>by cases h) (fun _=>?_); refine ITri.skip ?_; simp only [SeqQ_normal,BlkQ_normal]
   refine ITri.seq ?_
   refine ITri.seq ?_
   refine ITri.reg pok ?_; simp -implicitDefEqProofs (disch:=first|decide|exact of_eq_true (eq_true rfl)|omega|assumption) only [he,decide_false,Bool.not_false, ↓vcD,vcE,↓vcG,vcF,evs,evP,evB,intsOf,fillC,Value.cells,pt,Value.oneCell',reduceIte,reduceCtorEq,Nat.reduceEqDiff,Nat.reduceAdd,Nat.reduceMul,Nat.reduceLT,Nat.reduceBEq,Nat.reduceLeDiff,Nat.reduceSub]
   refine ITri.cond (v:=true) rfl (fun _=>?_) (fun h=>by cases h)
   refine ITri.seq ?_
   refine ITri.reg pok ?_; simp -implicitDefEqProofs (disch:=first|decide|exact of_eq_true (eq_true rfl)|omega|assumption) only [c2,hkr, ↓vcD,vcE,↓vcG,vcF,evs,evP,evB,intsOf,fillC,Value.cells,pt,Value.oneCell',reduceIte,reduceCtorEq,Nat.reduceEqDiff,Nat.reduceAdd,Nat.reduceMul,Nat.reduceLT,Nat.reduceBEq,Nat.reduceLeDiff,Nat.reduceSub]
   refine ITri.ret ?_
   exact EndX.mk (by simp) (resF_agg (cs:=stV true (.slice none 0 0)) 3 rfl (by kernel_rfl) (cells_all (hset _) rfl) (resF_tmp rfl (resF_tmp rfl resF_nil))) rfl rfl
 obtain ⟨st,v,e,L',fs,F,T⟩:=fin
 refine ⟨st,v,e,L',fs,F,?_⟩
 refine ITri.block ?_
 refine ITri.loop (fun j:Nat=>frRf kr ws (f j)) (fun _=>[]) (fun j=>Hp wl (f j).M) (fun j=>j≤N) (fun j=>N - j) 0 (Nat.zero_le _) (by rw [f0]; exact Wk.sub ⟨rfl,rfl,rfl,trivial⟩) fun j hj=>?_
 by_cases hjN:j < N
 ·exact ITri.atF (f2 j hjN) (LoopQ.next (j + 1) (by omega) (by omega) (Wk.sub ⟨rfl,rfl,rfl,trivial⟩))
 ·obtain rfl:j = N:=by omega
  exact T
end
end Go.Proofs.YtgjokhodccacoaaDoor
set_option linter.unusedSimpArgs false
set_option linter.unusedVariables false
namespace Go.Vm
open Go Go.RowKit
theorem cells_mono {wl k o n:Nat} {M M' : List (Option AObj)} (e:M'[k]? = M[k]?):cellsAt (Hp wl M') k o n = cellsAt (Hp wl M) k o n:=by
 unfold cellsAt
 rw [Hp_get,Hp_get,e]
theorem cells_lt {wl k o n:Nat} {M:List (Option AObj)} {cs:List Value} (h:cellsAt (Hp wl M) k o n = some cs):k < M.length:=by
 rcases Nat.lt_or_ge k M.length with h1|h1
 ·exact h1
 ·unfold cellsAt at h
  rw [Hp_get,List.getElem?_eq_none h1] at h
  cases h
theorem Rw.appS {b wl : Nat} {M : List (Option AObj)} {k c n sz ne bytes : Nat} {cs new : List Value} {sv : Value} (h : Rw b M k c n sz cs) (hb : wl ≤ b) (hsv : ∃ a c2, sv = .slice a ne c2) (hs : ne ≠ 0 → ∃ k2 o2 c2, sv = .slice (some ⟨k2, o2, none⟩) ne c2 ∧ cellsAt (Hp wl M) k2 o2 (ne * sz) = some new) (hnl : new.length = ne * sz) (hbd : (2 * (n + ne) + 1024) * bytes ≤ 281474976710656) (h1 : new.all Value.oneCell' = true) (hbM : b ≤ M.length) :
    ∃ M' k' c',M.length≤M'.length∧(∀ j,j < M.length→j≠k→M'[j]? = M[j]?)∧Rw b M' k' c' (n + ne) sz (cs++new)∧∀ K:Value→AH→Prop,K (.slice (some ⟨k',0,none⟩) (n + ne) c') (Hp wl M')→appK (Hp wl M) sz bytes (.slice (some ⟨k,0,none⟩) n c) sv K:=by
 by_cases hne:ne = 0
 ·subst hne
  obtain ⟨a,c2,rfl⟩:=hsv
  have e0:new = []:=List.eq_nil_of_length_eq_zero (by rw [hnl,Nat.zero_mul])
  subst e0
  refine ⟨M,k,c,Nat.le_refl _,fun _ _ _=>rfl,by rw [List.append_nil]; exact h,fun K q=>?_⟩
  obtain ⟨_,_,_,_,h5⟩:=h
  rcases h5 with ⟨rfl,rfl⟩|⟨rfl,rfl⟩
  ·rw [appK_zo']; exact q
  ·rw [appK_0']; exact q
 ·obtain ⟨k2,o2,c2,rfl,hc⟩:=hs hne
  obtain ⟨M',l',o',r',q'⟩:=h.app' (c2:=c2) hb hc hne hnl hbd h1 hbM
  exact ⟨M',M.length,openB,by omega,fun j h1 h2=>o' j h2 h1,r',q'⟩
end Go.Vm
namespace Go.Proofs.YtgjokhodccacoaaDoor
open Go.RowKit Go.Vm
set_option maxRecDepth 100000
section
variable {wl b c:Nat} {a:Option Addr} {L:List (Option AObj)} {ws xs:List Int} {wv sv:Value}
theorem wt_cells {M:List (Option AObj)} (h:WtV b M wv ws):ws.length≠0→∃ k2 o2 c2,wv = .slice (some ⟨k2,o2,none⟩) ws.length c2∧cellsAt (Hp wl M) k2 o2 (ws.length * 1) = some (rows eB ws):=fun hne=>by
 obtain ⟨k,o,c,zs,h1,h2,h3,h4,h5⟩:=h.2 hne
 refine ⟨k,o,c,h1,?_⟩
 have hl:ws.length = zs.length - o:=by rw [← h4,List.length_drop]
 rw [Nat.mul_one,cells_sub (P:=o) h3 (by omega),h4,List.take_length]
theorem rfeed_x (hw : WtV b L wv ws) (hwL : wl ≤ L.length) (hB : isB ws) (hx : isB xs) (hn : xs.length ≤ 10000) (hl : ws.length + xs.length ≤ 30000) (hsv : ∃ a c, sv = .slice a xs.length c) (hs : xs.length ≠ 0 → ∃ k2 o2 c2, sv = .slice (some ⟨k2, o2, none⟩) xs.length c2 ∧ cellsAt (Hp wl L) k2 o2 (xs.length * 1) = some (rows eB xs)) :
    ∃ st v e L' fs,RfQ L (ws++xs) st v e L' fs∧Fc Tryd.prog 43 [.agg ⟨stV false wv⟩,sv] (Hp wl L) (.tuple #[.agg ⟨st⟩,v,.int .i64 e]) (Hp wl L'):=by
 obtain ⟨a0,c0,rfl⟩:=hsv
 obtain ⟨a1,c1,rfl⟩:=id hw.1
 have hn' : ¬ (10000:Int) < xs.length:=by omega
 obtain ⟨L1,hL1⟩ : ∃ L1,L++[some (AObj.cells ⟨stV false (.slice a1 ws.length c1),1,false⟩),some (AObj.cells ⟨stV false (.slice none 0 0),1,false⟩)] = L1:=⟨_,rfl⟩
 have l1:L1.length = L.length + 2:=by rw [← hL1,List.length_append]; rfl
 have o1 : ∀ i,i < L.length→L1[i]? = L[i]?:=fun i hi=>by rw [← hL1,List.getElem?_append_left hi]
 have b1:L1[L.length]? = some (some (AObj.cells ⟨stV false (.slice a1 ws.length c1),1,false⟩)):=by
  rw [← hL1,List.getElem?_append_right (Nat.le_refl _),Nat.sub_self]
  rfl
 have b2:L1[L.length + 1]? = some (some (AObj.cells ⟨stV false (.slice none 0 0),1,false⟩)):=by
  rw [← hL1,List.getElem?_append_right (by omega),Nat.add_sub_cancel_left]
  rfl
 obtain ⟨M1,hM1⟩ : ∃ M1,L1++[some (AObj.cells ⟨[],1,false⟩)] = M1:=⟨_,rfl⟩
 have m1:M1.length = L1.length + 1:=by rw [← hM1,List.length_append]; rfl
 have p1 : ∀ i,i < L1.length→M1[i]? = L1[i]?:=fun i hi=>by rw [← hM1,List.getElem?_append_left hi]
 have R1:Rw L1.length M1 L1.length 0 0 1 []:=⟨Nat.le_refl _,rfl,false,by
  rw [← hM1,List.getElem?_append_right (Nat.le_refl _),Nat.sub_self]
  rfl,.inr ⟨rfl,rfl⟩⟩
 obtain ⟨M2,ka,ca,m2,p2,R2,q2⟩:=R1.appS (wl:=wl) (bytes:=1) (ne:=ws.length) (new:=rows eB ws) (sv:=.slice a1 ws.length c1) (by omega) hw.1 (fun h=>by
  obtain ⟨k,o,c,e1,e2⟩:=wt_cells (wl:=wl) hw h
  refine ⟨k,o,c,e1,?_⟩
  have hk:=cells_lt e2
  rw [cells_mono (M:=L) (by rw [p1 k (by omega),o1 k hk])]
  exact e2) (by rw [rows_len,Nat.mul_one]) (by omega) (rows_allT _) (by omega)
 rw [Nat.zero_add,List.nil_append] at R2
 have p2' : ∀ i,i < L1.length→M2[i]? = L1[i]?:=fun i hi=>by rw [p2 i (by omega) (by omega),p1 i hi]
 obtain ⟨M3,kw,cw,m3,p3,R3,q3⟩:=R2.appS (wl:=wl) (bytes:=1) (ne:=xs.length) (new:=rows eB xs) (sv:=.slice a0 xs.length c0) (by omega) ⟨_,_,rfl⟩ (fun h=>by
  obtain ⟨k,o,c,e1,e2⟩:=hs h
  refine ⟨k,o,c,e1,?_⟩
  have hk:=cells_lt e2
  rw [cells_mono (M:=L) (by rw [p2' k (by omega),o1 k hk])]
  exact e2) (by rw [rows_len,Nat.mul_one]) (by omega) (rows_allT _) (by omega)
 rw [← rows_append,← List.length_append] at R3
 have hka:=R2.1
 have p3' : ∀ i,i < L1.length→M3[i]? = L1[i]?:=fun i hi=>by rw [p3 i (by omega) (by omega),p2' i hi]
 obtain ⟨M4,hM4⟩ : ∃ M4,M3++[some (AObj.cells ⟨[],2,false⟩)] = M4:=⟨_,rfl⟩
 have m4:M4.length = M3.length + 1:=by rw [← hM4,List.length_append]; rfl
 have p4 : ∀ i,i < M3.length→M4[i]? = M3[i]?:=fun i hi=>by rw [← hM4,List.getElem?_append_left hi]
 have hkw:=R3.1
 have hwl:=R3.lt
 have I0:RfI L1 kw (ws++xs) 0 ⟨0,[],M3.length,0,kw,0,cw,M4⟩:=by
  refine ⟨Nat.zero_le _,fun i hi=>?_,by show L1.length≤M4.length; omega,⟨by show L1.length≤M3.length; omega,rfl,false,?_,.inr ⟨rfl,rfl⟩⟩,fun h=>⟨rfl,rfl,?_⟩,fun f hf=>(by cases hf),rfl,rfl,Nat.zero_add _,Nat.le_refl _⟩
  ·show M4[i]? = _
   rw [p4 i (by omega),p3' i hi]
  ·show M4[M3.length]? = _
   rw [← hM4,List.getElem?_append_right (Nat.le_refl _),Nat.sub_self]
   rfl
  ·have h:0 < (ws++xs).length:=h
   obtain ⟨_,_,op,g4,g5⟩:=R3
   rcases g5 with ⟨rfl,rfl⟩|⟨_,h5⟩
   ·exact ⟨Nat.le_refl _,by show M4[kw]? = _; rw [p4 kw hwl]; exact g4⟩
   ·omega
 obtain ⟨st,v,e,L',fs,F,T⟩:=rf_l (wl:=wl) (bb:=L.length) (kr:=L.length + 1) (fun x h=>by
  rcases List.mem_append.1 h with h|h
  ·exact hB x h
  ·exact hx x h) (by rw [List.length_append]; exact hl) (by omega) (by omega) hkw o1 hwL b2 I0
 refine ⟨st,v,e,L',fs,F,?_⟩
 refine Fc.introX fn43 (by simp) (fun hw=>grow_hq F.len (takeW_eq fun (i:Nat) (hi:i < wl)=>F.old i (by omega))) ?_; simp only [argF]
 refine ITri.seq ?_
 refine ITri.reg pok ?_; simp -implicitDefEqProofs (disch:=first|decide|exact of_eq_true (eq_true rfl)|omega|assumption) only [apd_get,apd_get0,apd_set0,apd_set,List.length_append,List.append_assoc,Nat.add_assoc,hL1, ↓vcD,vcE,↓vcG,vcF,evs,evP,evB,intsOf,fillC,Value.cells,pt,Value.oneCell',reduceIte,reduceCtorEq,Nat.reduceEqDiff,Nat.reduceAdd,Nat.reduceMul,Nat.reduceLT,Nat.reduceBEq,Nat.reduceLeDiff,Nat.reduceSub]
 refine ITri.seq ?_
 refine ITri.seq ?_
 refine ITri.reg pok ?_; simp -implicitDefEqProofs (disch:=first|decide|exact of_eq_true (eq_true rfl)|omega|assumption) only [b1, ↓vcD,vcE,↓vcG,vcF,evs,evP,evB,intsOf,fillC,Value.cells,pt,Value.oneCell',reduceIte,reduceCtorEq,Nat.reduceEqDiff,Nat.reduceAdd,Nat.reduceMul,Nat.reduceLT,Nat.reduceBEq,Nat.reduceLeDiff,Nat.reduceSub]
 refine ITri.cond (v:=false) rfl (fun h=>by cases h) (fun _=>?_); refine ITri.skip ?_; simp only [SeqQ_normal,BlkQ_normal]
 refine ITri.seq ?_
 refine ITri.seq ?_
 refine ITri.reg pok ?_; simp -implicitDefEqProofs (disch:=first|decide|exact of_eq_true (eq_true rfl)|omega|assumption) only [b1, ↓vcD,vcE,↓vcG,vcF,evs,evP,evB,intsOf,fillC,Value.cells,pt,Value.oneCell',reduceIte,reduceCtorEq,Nat.reduceEqDiff,Nat.reduceAdd,Nat.reduceMul,Nat.reduceLT,Nat.reduceBEq,Nat.reduceLeDiff,Nat.reduceSub]
 refine ITri.cond (v:=false) rfl (fun h=>by cases h) (fun _=>?_); refine ITri.skip ?_; simp only [SeqQ_normal,BlkQ_normal]
 refine ITri.seq ?_
 refine ITri.seq ?_
 refine ITri.reg pok ?_; simp -implicitDefEqProofs (disch:=first|decide|exact of_eq_true (eq_true rfl)|omega|assumption) only [hn',decide_false, ↓vcD,vcE,↓vcG,vcF,evs,evP,evB,intsOf,fillC,Value.cells,pt,Value.oneCell',reduceIte,reduceCtorEq,Nat.reduceEqDiff,Nat.reduceAdd,Nat.reduceMul,Nat.reduceLT,Nat.reduceBEq,Nat.reduceLeDiff,Nat.reduceSub]
 refine ITri.cond (v:=false) rfl (fun h=>by cases h) (fun _=>?_); refine ITri.skip ?_; simp only [SeqQ_normal,BlkQ_normal]
 refine ITri.seq ?_
 have b3:M1[L.length]? = some (some (AObj.cells ⟨stV false (.slice a1 ws.length c1),1,false⟩)):=by rw [p1 _ (by omega)]; exact b1
 refine ITri.reg pok ?_; simp -implicitDefEqProofs (disch:=first|decide|exact of_eq_true (eq_true rfl)|omega|assumption) only [apd_get,apd_get0,apd_set0,apd_set,List.length_append,List.append_assoc,Nat.add_assoc,hM1,b3, ↓vcD,vcE,↓vcG,vcF,evs,evP,evB,intsOf,fillC,Value.cells,pt,Value.oneCell',reduceIte,reduceCtorEq,Nat.reduceEqDiff,Nat.reduceAdd,Nat.reduceMul,Nat.reduceLT,Nat.reduceBEq,Nat.reduceLeDiff,Nat.reduceSub]
 refine q2 _ ?_
 rw [Nat.zero_add]
 try simp -implicitDefEqProofs (disch:=first|decide|exact of_eq_true (eq_true rfl)|omega|assumption) only [↓vcD,vcE,↓vcG,vcF,evs,evP,evB,intsOf,fillC,Value.cells,pt,Value.oneCell',reduceIte,reduceCtorEq,Nat.reduceEqDiff,Nat.reduceAdd,Nat.reduceMul,Nat.reduceLT,Nat.reduceBEq,Nat.reduceLeDiff,Nat.reduceSub]
 refine q3 _ ?_
 rw [← List.length_append]
 simp -implicitDefEqProofs (disch:=first|decide|exact of_eq_true (eq_true rfl)|omega|assumption) only [apd_get,apd_get0,apd_set0,apd_set,List.length_append,List.append_assoc,Nat.add_assoc,hM4, ↓vcD,vcE,↓vcG,vcF,evs,evP,evB,intsOf,fillC,Value.cells,pt,Value.oneCell',reduceIte,reduceCtorEq,Nat.reduceEqDiff,Nat.reduceAdd,Nat.reduceMul,Nat.reduceLT,Nat.reduceBEq,Nat.reduceLeDiff,Nat.reduceSub]
 exact ITri.weak (l':=frRf (L.length + 1) (ws++xs) ⟨0,[],M3.length,0,kw,0,cw,M4⟩) (ms':=[]) (h':=Hp wl M4) (Wk.sub ⟨rfl,by show _ = some (Value.slice _ (ws++xs).length cw); rw [List.length_append]; rfl,rfl,trivial⟩) T
theorem rfeed_b {n c2 c3:Nat} {a2:Option Addr} (hwL:wl≤L.length) : ∃ L',L.length≤L'.length∧(∀ i,i < L.length→L'[i]? = L[i]?)∧Fc Tryd.prog 43 [.agg ⟨stV true (.slice a n c2)⟩,.slice a2 c c3] (Hp wl L) (.tuple #[.agg ⟨stV true (.slice a n c2)⟩,.slice none 0 0,.int .i64 9]) (Hp wl L'):=by
 obtain ⟨L1,hL1⟩ : ∃ L1,L++[some (AObj.cells ⟨stV true (.slice a n c2),1,false⟩),some (AObj.cells ⟨stV false (.slice none 0 0),1,false⟩)] = L1:=⟨_,rfl⟩
 have l1:L1.length = L.length + 2:=by rw [← hL1,List.length_append]; rfl
 have o1 : ∀ i,i < L.length→L1[i]? = L[i]?:=fun i hi=>by rw [← hL1,List.getElem?_append_left hi]
 have b1:L1[L.length]? = some (some (AObj.cells ⟨stV true (.slice a n c2),1,false⟩)):=by
  rw [← hL1,List.getElem?_append_right (Nat.le_refl _),Nat.sub_self]
  rfl
 have b2:L1[L.length + 1]? = some (some (AObj.cells ⟨stV false (.slice none 0 0),1,false⟩)):=by
  rw [← hL1,List.getElem?_append_right (by omega),Nat.add_sub_cancel_left]
  rfl
 have hk:wl≤L.length + 1:=by omega
 refine ⟨L1.set (L.length + 1) (some (.cells ⟨stV true (.slice a n c2),1,false⟩)),by rw [List.length_set]; omega,fun i hi=>by rw [List.getElem?_set_ne (by omega),o1 i hi],?_⟩
 have hset:(L1.set (L.length + 1) (some (.cells ⟨stV true (.slice a n c2),1,false⟩)))[L.length + 1]? = some (some (.cells ⟨stV true (.slice a n c2),1,false⟩)):=List.getElem?_set_self (by omega)
 refine Fc.introX fn43 (by simp) (fun hw=>grow_hq (by rw [List.length_set]; omega) (takeW_eq fun (i:Nat) (hi:i < wl)=>by rw [List.getElem?_set_ne (by omega),o1 i (by omega)])) ?_; simp only [argF]
 refine ITri.seq ?_
 refine ITri.reg pok ?_; simp -implicitDefEqProofs (disch:=first|decide|exact of_eq_true (eq_true rfl)|omega|assumption) only [apd_get,apd_get0,apd_set0,apd_set,List.length_append,List.append_assoc,Nat.add_assoc,hL1, ↓vcD,vcE,↓vcG,vcF,evs,evP,evB,intsOf,fillC,Value.cells,pt,Value.oneCell',reduceIte,reduceCtorEq,Nat.reduceEqDiff,Nat.reduceAdd,Nat.reduceMul,Nat.reduceLT,Nat.reduceBEq,Nat.reduceLeDiff,Nat.reduceSub]
 refine ITri.seq ?_
 refine ITri.seq ?_
 refine ITri.reg pok ?_; simp -implicitDefEqProofs (disch:=first|decide|exact of_eq_true (eq_true rfl)|omega|assumption) only [b1, ↓vcD,vcE,↓vcG,vcF,evs,evP,evB,intsOf,fillC,Value.cells,pt,Value.oneCell',reduceIte,reduceCtorEq,Nat.reduceEqDiff,Nat.reduceAdd,Nat.reduceMul,Nat.reduceLT,Nat.reduceBEq,Nat.reduceLeDiff,Nat.reduceSub]
 refine ITri.cond (v:=false) rfl (fun h=>by cases h) (fun _=>?_); refine ITri.skip ?_; simp only [SeqQ_normal,BlkQ_normal]
 refine ITri.seq ?_
 refine ITri.seq ?_
 refine ITri.reg pok ?_; simp -implicitDefEqProofs (disch:=first|decide|exact of_eq_true (eq_true rfl)|omega|assumption) only [b1, ↓vcD,vcE,↓vcG,vcF,evs,evP,evB,intsOf,fillC,Value.cells,pt,Value.oneCell',reduceIte,reduceCtorEq,Nat.reduceEqDiff,Nat.reduceAdd,Nat.reduceMul,Nat.reduceLT,Nat.reduceBEq,Nat.reduceLeDiff,Nat.reduceSub]
 refine ITri.cond (v:=true) rfl (fun _=>?_) (fun h=>by cases h)
 refine ITri.seq ?_
 refine ITri.reg pok ?_; simp -implicitDefEqProofs (disch:=first|decide|exact of_eq_true (eq_true rfl)|omega|assumption) only [b1,b2,hk, ↓vcD,vcE,↓vcG,vcF,evs,evP,evB,intsOf,fillC,Value.cells,pt,Value.oneCell',reduceIte,reduceCtorEq,Nat.reduceEqDiff,Nat.reduceAdd,Nat.reduceMul,Nat.reduceLT,Nat.reduceBEq,Nat.reduceLeDiff,Nat.reduceSub]
 refine ITri.ret ?_
 exact EndX.mk (by simp) (resF_agg (cs:=stV true (.slice a n c2)) 3 rfl (by kernel_rfl) (cells_all hset rfl) (resF_tmp rfl (resF_tmp rfl resF_nil))) rfl rfl
theorem rfeed_g {n c2 c3:Nat} {a2:Option Addr} (hwL:wl≤L.length) (hc:10000 < c) : ∃ L',L.length≤L'.length∧(∀ i,i < L.length→L'[i]? = L[i]?)∧Fc Tryd.prog 43 [.agg ⟨stV false (.slice a n c2)⟩,.slice a2 c c3] (Hp wl L) (.tuple #[.agg ⟨stV false (.slice a n c2)⟩,.slice none 0 0,.int .i64 5]) (Hp wl L'):=by
 obtain ⟨L1,hL1⟩ : ∃ L1,L++[some (AObj.cells ⟨stV false (.slice a n c2),1,false⟩),some (AObj.cells ⟨stV false (.slice none 0 0),1,false⟩)] = L1:=⟨_,rfl⟩
 have l1:L1.length = L.length + 2:=by rw [← hL1,List.length_append]; rfl
 have o1 : ∀ i,i < L.length→L1[i]? = L[i]?:=fun i hi=>by rw [← hL1,List.getElem?_append_left hi]
 have b1:L1[L.length]? = some (some (AObj.cells ⟨stV false (.slice a n c2),1,false⟩)):=by
  rw [← hL1,List.getElem?_append_right (Nat.le_refl _),Nat.sub_self]
  rfl
 have b2:L1[L.length + 1]? = some (some (AObj.cells ⟨stV false (.slice none 0 0),1,false⟩)):=by
  rw [← hL1,List.getElem?_append_right (by omega),Nat.add_sub_cancel_left]
  rfl
 have hk:wl≤L.length + 1:=by omega
 have hc' : (10000:Int) < c:=by omega
 refine ⟨L1.set (L.length + 1) (some (.cells ⟨stV false (.slice a n c2),1,false⟩)),by rw [List.length_set]; omega,fun i hi=>by rw [List.getElem?_set_ne (by omega),o1 i hi],?_⟩
 have hset:(L1.set (L.length + 1) (some (.cells ⟨stV false (.slice a n c2),1,false⟩)))[L.length + 1]? = some (some (.cells ⟨stV false (.slice a n c2),1,false⟩)):=List.getElem?_set_self (by omega)
 refine Fc.introX fn43 (by simp) (fun hw=>grow_hq (by rw [List.length_set]; omega) (takeW_eq fun (i:Nat) (hi:i < wl)=>by rw [List.getElem?_set_ne (by omega),o1 i (by omega)])) ?_; simp only [argF]
 refine ITri.seq ?_
 refine ITri.reg pok ?_; simp -implicitDefEqProofs (disch:=first|decide|exact of_eq_true (eq_true rfl)|omega|assumption) only [apd_get,apd_get0,apd_set0,apd_set,List.length_append,List.append_assoc,Nat.add_assoc,hL1, ↓vcD,vcE,↓vcG,vcF,evs,evP,evB,intsOf,fillC,Value.cells,pt,Value.oneCell',reduceIte,reduceCtorEq,Nat.reduceEqDiff,Nat.reduceAdd,Nat.reduceMul,Nat.reduceLT,Nat.reduceBEq,Nat.reduceLeDiff,Nat.reduceSub]
 refine ITri.seq ?_
 refine ITri.seq ?_
 refine ITri.reg pok ?_; simp -implicitDefEqProofs (disch:=first|decide|exact of_eq_true (eq_true rfl)|omega|assumption) only [b1, ↓vcD,vcE,↓vcG,vcF,evs,evP,evB,intsOf,fillC,Value.cells,pt,Value.oneCell',reduceIte,reduceCtorEq,Nat.reduceEqDiff,Nat.reduceAdd,Nat.reduceMul,Nat.reduceLT,Nat.reduceBEq,Nat.reduceLeDiff,Nat.reduceSub]
 refine ITri.cond (v:=false) rfl (fun h=>by cases h) (fun _=>?_); refine ITri.skip ?_; simp only [SeqQ_normal,BlkQ_normal]
 refine ITri.seq ?_
 refine ITri.seq ?_
 refine ITri.reg pok ?_; simp -implicitDefEqProofs (disch:=first|decide|exact of_eq_true (eq_true rfl)|omega|assumption) only [b1, ↓vcD,vcE,↓vcG,vcF,evs,evP,evB,intsOf,fillC,Value.cells,pt,Value.oneCell',reduceIte,reduceCtorEq,Nat.reduceEqDiff,Nat.reduceAdd,Nat.reduceMul,Nat.reduceLT,Nat.reduceBEq,Nat.reduceLeDiff,Nat.reduceSub]
 refine ITri.cond (v:=false) rfl (fun h=>by cases h) (fun _=>?_); refine ITri.skip ?_; simp only [SeqQ_normal,BlkQ_normal]
 refine ITri.seq ?_
 refine ITri.seq ?_
 refine ITri.reg pok ?_; simp -implicitDefEqProofs (disch:=first|decide|exact of_eq_true (eq_true rfl)|omega|assumption) only [hc',decide_true, ↓vcD,vcE,↓vcG,vcF,evs,evP,evB,intsOf,fillC,Value.cells,pt,Value.oneCell',reduceIte,reduceCtorEq,Nat.reduceEqDiff,Nat.reduceAdd,Nat.reduceMul,Nat.reduceLT,Nat.reduceBEq,Nat.reduceLeDiff,Nat.reduceSub]
 refine ITri.cond (v:=true) rfl (fun _=>?_) (fun h=>by cases h)
 refine ITri.seq ?_
 refine ITri.reg pok ?_; simp -implicitDefEqProofs (disch:=first|decide|exact of_eq_true (eq_true rfl)|omega|assumption) only [b1,b2,hk, ↓vcD,vcE,↓vcG,vcF,evs,evP,evB,intsOf,fillC,Value.cells,pt,Value.oneCell',reduceIte,reduceCtorEq,Nat.reduceEqDiff,Nat.reduceAdd,Nat.reduceMul,Nat.reduceLT,Nat.reduceBEq,Nat.reduceLeDiff,Nat.reduceSub]
 refine ITri.ret ?_
 exact EndX.mk (by simp) (resF_agg (cs:=stV false (.slice a n c2)) 3 rfl (by kernel_rfl) (cells_all hset rfl) (resF_tmp rfl (resF_tmp rfl resF_nil))) rfl rfl
end
end Go.Proofs.YtgjokhodccacoaaDoor
