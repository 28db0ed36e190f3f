import Derived.Test.YtgjokhodccacoaaDoorSRecH3
set_option linter.unusedSimpArgs false
set_option linter.unusedVariables false
namespace Go.Vm
open Go Go.RowKit
theorem RwV.get {b n sz:Nat} {M:List (Option AObj)} {v:Value} {cs:List Value} (h:RwV b M v n sz cs) (h0:n≠0) : ∃ k c sz op,v = .slice (some ⟨k,0,none⟩) n c∧M[k]? = some (some (.cells ⟨cs,sz,op⟩)):=by
 rcases h with ⟨_,h,_⟩|⟨k,c,h1,h2⟩
 ·exact absurd h h0
 ·obtain ⟨_,_,op,h3,_⟩:=h2
  exact ⟨k,c,sz,op,h1,h3⟩
theorem RwV.slc {b n sz:Nat} {M:List (Option AObj)} {v:Value} {cs:List Value} (h:RwV b M v n sz cs) : ∃ a c,v = .slice a n c:=by
 rcases h with ⟨rfl,rfl,_⟩|⟨k,c,rfl,h2⟩
 ·exact ⟨_,_,rfl⟩
 ·exact ⟨_,_,rfl⟩
theorem pr_sne (P:Program) (t:TypeId) (xo yo:Operand) (x:ByteArray):pureRun P (do Go.eqGuard .neq t xo yo (.string x) (.string x); Go.binOp .neq t (.string x) (.string x)) = some (.bool false):=by
 rw [binOp_string_neq,beq_self_eq_true]
 rfl
theorem gen_sne {P:Program} {w:Bool} {l:Fr} {h:AH} {K:Value→AH→Prop} {t u:TypeId} {s e:Nat} {x:ByteArray} (h1:lk l s = some (.string x)) (h2:lk l e = some (.string x)) (q:K (.bool false) h):iStep P w (.gen (.binOp .neq t (.tmp s) (.tmp e) u)) l h K:=by
 refine ⟨_,_,?_,q⟩
 have e1:aEnv (trOf l) (.tmp s) = some (.string x):=by simp only [aEnv,trOf_get,h1]
 have e2:aEnv (trOf l) (.tmp e) = some (.string x):=by simp only [aEnv,trOf_get,h2]
 exact op_bin e1 e2 rfl rfl rfl (pr_sne _ _ _ _ _)
end Go.Vm
namespace Go.Proofs.YtgjokhodccacoaaDoor
open Go.RowKit Go.Vm
set_option maxRecDepth 100000
def ir44_r0:IC:=.reg [⟨some 4,none,false,.mv (.k (.bool false))⟩] (some [0,1])
def ir44_r1:IC:=.reg [⟨some 6,none,false,.mv (.t 0)⟩,
 ⟨some 7,none,false,.len (.t 6)⟩,
 ⟨some 8,none,false,.mv (.t 1)⟩,
 ⟨some 9,none,false,.len (.t 8)⟩,
 ⟨some 10,none,false,.cmp .neq (.t 7) (.t 9)⟩] (some [0,1,10])
def ir44_r2:IC:=.reg [⟨some 4,none,false,.mv (.k (.bool false))⟩] (some [4])
def ir44_1:IC:=.seq ir44_r2 .ret
def ir44_2:IC:=.cond (.t 10) ir44_1 .skip
def ir44_3:IC:=.seq ir44_r1 ir44_2
def ir44_r3:IC:=.reg [⟨some 5,none,false,.mv (.k (.int .i64 0))⟩] (some [0,1,5])
def ir44_r4:IC:=.reg [⟨some 11,none,false,.mv (.t 5)⟩,
 ⟨some 12,none,false,.mv (.t 0)⟩,
 ⟨some 13,none,false,.len (.t 12)⟩,
 ⟨some 14,none,false,.cmp .lss (.t 11) (.t 13)⟩] (some [0,1,5,14])
def ir44_4:IC:=.cond (.t 14) .skip (.exit 0)
def ir44_5:IC:=.seq ir44_r4 ir44_4
def ir44_r6:IC:=.draw [(⟨some 17,none,false,.mv (.t 0)⟩,false,0,0),
 (⟨some 18,none,false,.mv (.t 5)⟩,false,0,0),
 (⟨some 19,none,false,.iad 2 (.t 17) (.t 18)⟩,false,3,0),
 (⟨some 20,none,false,.fad 0 (.t 19)⟩,false,7,0),
 (⟨some 21,none,false,.ldc (.t 20)⟩,false,15,1),
 (⟨some 22,none,false,.mv (.t 1)⟩,false,0,0),
 (⟨some 23,none,false,.mv (.t 5)⟩,false,0,0),
 (⟨some 24,none,false,.iad 2 (.t 22) (.t 23)⟩,false,96,0),
 (⟨some 25,none,false,.fad 0 (.t 24)⟩,false,224,0),
 (⟨some 26,none,false,.ldc (.t 25)⟩,false,480,16),
 (⟨some 27,none,false,.cmp .neq (.t 21) (.t 26)⟩,false,1023,0),
 (⟨some 28,none,false,.mv (.t 27)⟩,false,2047,0),
 (⟨some 29,some (28,false),false,.mv (.t 0)⟩,false,4095,0),
 (⟨some 30,some (28,false),false,.mv (.t 5)⟩,false,4095,0),
 (⟨some 31,some (28,false),false,.iad 2 (.t 29) (.t 30)⟩,false,16383,0),
 (⟨some 32,some (28,false),false,.fad 1 (.t 31)⟩,false,32767,0),
 (⟨some 33,some (28,false),false,.ldc (.t 32)⟩,false,65535,1),
 (⟨some 34,some (28,false),false,.gen (.convert 22 9 (.tmp 33))⟩,false,131071,1),
 (⟨some 35,some (28,false),false,.mv (.t 1)⟩,false,4095,0),
 (⟨some 36,some (28,false),false,.mv (.t 5)⟩,false,4095,0),
 (⟨some 37,some (28,false),false,.iad 2 (.t 35) (.t 36)⟩,false,790527,0),
 (⟨some 38,some (28,false),false,.fad 1 (.t 37)⟩,false,1839103,0),
 (⟨some 39,some (28,false),false,.ldc (.t 38)⟩,false,3936255,131072),
 (⟨some 40,some (28,false),false,.gen (.convert 22 9 (.tmp 39))⟩,false,8130559,131072),
 (⟨some 41,some (28,false),false,.gen (.binOp .neq 9 (.tmp 34) (.tmp 40) 9)⟩,false,16777215,0),
 (⟨some 42,none,false,.pick (.t 28) (.k (.bool true)) (.t 41)⟩,false,33554431,0)] (some [0,1,5,42])
def ir44_r7:IC:=.reg [⟨some 4,none,false,.mv (.k (.bool false))⟩] (some [4])
def ir44_6:IC:=.seq ir44_r7 .ret
def ir44_7:IC:=.cond (.t 42) ir44_6 .skip
def ir44_8:IC:=.seq ir44_r6 ir44_7
def ir44_9:IC:=.block 1 ir44_8
def ir44_r5:IC:=.reg [⟨some 15,none,false,.mv (.t 5)⟩,
 ⟨some 16,none,false,.ar .add (.t 15) (.k (.int .i64 1))⟩,
 ⟨some 5,none,false,.mv (.t 16)⟩] (some [0,1,5])
def ir44_10:IC:=.seq ir44_9 ir44_r5
def ir44_11:IC:=.seq ir44_5 ir44_10
def ir44_12:IC:=.loop ir44_11
def ir44_13:IC:=.block 0 ir44_12
def ir44_14:IC:=.seq ir44_r3 ir44_13
def ir44_r8:IC:=.reg [⟨some 4,none,false,.mv (.k (.bool true))⟩] (some [4])
def ir44_15:IC:=.seq ir44_r8 .ret
def ir44_16:IC:=.seq ir44_14 ir44_15
def ir44_17:IC:=.seq ir44_3 ir44_16
def ir44_18:IC:=.seq ir44_r0 ir44_17
def ir44:IC:=ir44_18
theorem fn44:FnIs Tryd.prog 44 ir44 43 [.tmp 4]:=⟨Tryd.f44,Tryd.f44.body.getD .skip,Tryd.func44,by kernel_rfl,by kernel_rfl,by kernel_rfl,by kernel_rfl⟩
theorem same_x {wl b1 b2 : Nat} {L : List (Option AObj)} {v1 v2 : Value} {fs1 fs2 : List FrT} (R1 : RwV b1 L v1 fs1.length 2 (fcs fs1)) (R2 : RwV b2 L v2 fs2.length 2 (fcs fs2)) (D1 : FD b1 L fs1) (D2 : FD b2 L fs2) (he : fs1.map (·.2) = fs2.map (·.2)) (hb : fs2.length ≤ 1000000) :
    Fc Tryd.prog 44 [v1,v2] (Hp wl L) (.bool true) (Hp wl L):=by
 have hl:fs1.length = fs2.length:=by
  have:=congrArg List.length he
  simpa using this
 obtain ⟨a1,c1,e1⟩:=R1.slc
 obtain ⟨a2,c2,e2⟩:=R2.slc
 refine Fc.introX fn44 (by simp) (fun hw=>grow_hq (Nat.le_refl _) rfl) ?_; simp only [argF]
 refine ITri.seq ?_
 refine ITri.reg pok ?_; simp -implicitDefEqProofs (disch:=first|decide|exact of_eq_true (eq_true rfl)|omega|assumption) only [↓vcD,vcE,↓vcG,vcF,evs,evP,evB,intsOf,fillC,Value.cells,pt,Value.oneCell',reduceIte,reduceCtorEq,Nat.reduceEqDiff,Nat.reduceAdd,Nat.reduceMul,Nat.reduceLT,Nat.reduceBEq,Nat.reduceLeDiff,Nat.reduceSub]
 refine ITri.seq ?_
 refine ITri.seq ?_
 rw [e1,e2,hl]
 refine ITri.reg pok ?_; simp -implicitDefEqProofs (disch:=first|decide|exact of_eq_true (eq_true rfl)|omega|assumption) only [decide_true,Bool.not_true, ↓vcD,vcE,↓vcG,vcF,evs,evP,evB,intsOf,fillC,Value.cells,pt,Value.oneCell',reduceIte,reduceCtorEq,Nat.reduceEqDiff,Nat.reduceAdd,Nat.reduceMul,Nat.reduceLT,Nat.reduceBEq,Nat.reduceLeDiff,Nat.reduceSub]
 refine ITri.cond (v:=false) rfl (fun h=>by cases h) (fun _=>?_); refine ITri.skip ?_; simp only [SeqQ_normal,BlkQ_normal]
 refine ITri.seq ?_
 refine ITri.seq ?_
 refine ITri.reg pok ?_; simp -implicitDefEqProofs (disch:=first|decide|exact of_eq_true (eq_true rfl)|omega|assumption) only [↓vcD,vcE,↓vcG,vcF,evs,evP,evB,intsOf,fillC,Value.cells,pt,Value.oneCell',reduceIte,reduceCtorEq,Nat.reduceEqDiff,Nat.reduceAdd,Nat.reduceMul,Nat.reduceLT,Nat.reduceBEq,Nat.reduceLeDiff,Nat.reduceSub]
 refine ITri.block ?_
 refine ITri.loop (fun i:Nat=>[(0,.slice a1 fs2.length c1),(1,.slice a2 fs2.length c2),(5,.int .i64 i)]) (fun _=>[]) (fun _=>Hp wl L) (fun i=>i≤fs2.length) (fun i=>fs2.length - i) 0 (Nat.zero_le _) (Wk.sub ⟨rfl,rfl,rfl,trivial⟩) fun i hi=>?_
 refine ITri.seq ?_
 refine ITri.seq ?_
 refine ITri.reg pok ?_; simp -implicitDefEqProofs (disch:=first|decide|exact of_eq_true (eq_true rfl)|omega|assumption) only [↓vcD,vcE,↓vcG,vcF,evs,evP,evB,intsOf,fillC,Value.cells,pt,Value.oneCell',reduceIte,reduceCtorEq,Nat.reduceEqDiff,Nat.reduceAdd,Nat.reduceMul,Nat.reduceLT,Nat.reduceBEq,Nat.reduceLeDiff,Nat.reduceSub]
 refine ITri.condD (by rfl) (fun h3=>?_) (fun h3=>?_)
 ·have hix:i < fs2.length:=by omega
  have h0:fs1.length≠0:=by omega
  have h02:fs2.length≠0:=by omega
  obtain ⟨k1,c1',sz1,op1,x1,m1⟩:=R1.get h0
  obtain ⟨k2,c2',sz2,op2,x2,m2⟩:=R2.get h02
  rw [e1,hl] at x1
  rw [e2] at x2
  injection x1 with y1 _ y2
  injection x2 with y3 _ y4
  subst y1 y2 y3 y4
  obtain ⟨f,hf⟩ : ∃ f,fs1[i]? = some f:=⟨fs1[i]'(by omega),List.getElem?_eq_getElem (by omega)⟩
  obtain ⟨g,hg⟩ : ∃ g,fs2[i]? = some g:=⟨fs2[i]'hix,List.getElem?_eq_getElem hix⟩
  have hfg:f.2 = g.2:=by
   have:=congrArg (fun l=>l[i]?) he
   simp only [List.getElem?_map,hf,hg,Option.map_some,Option.some.injEq] at this
   exact this
  obtain ⟨p1,p2⟩:=fcs_get hf
  obtain ⟨q1,q2⟩:=fcs_get hg
  have d1:=(D1 f (List.mem_of_getElem? hf)).2
  have d2:=(D2 g (List.mem_of_getElem? hg)).2
  rw [hfg] at p1 p2 d1
  have hi1:(i:Int) + 1 = ((i + 1:Nat):Int):=by omega
  refine ITri.skip ?_; simp only [SeqQ_normal,BlkQ_normal]
  refine ITri.seq ?_
  refine ITri.block ?_
  refine ITri.seq ?_
  refine ITri.draw pok ?_; simp -implicitDefEqProofs (disch:=first|decide|exact of_eq_true (eq_true rfl)|omega|assumption) only [m1,m2,p1,p2,q1,q2,decide_true,Bool.not_true, ↓vcD,vcE,↓vcG,vcF,evs,evP,evB,intsOf,fillC,Value.cells,pt,Value.oneCell',reduceIte,reduceCtorEq,Nat.reduceEqDiff,Nat.reduceAdd,Nat.reduceMul,Nat.reduceLT,Nat.reduceBEq,Nat.reduceLeDiff,Nat.reduceSub]
  refine gen_str (xs:=g.2.2) (by decide) u_slB u_uint8 u_str rfl rfl (get_hq rfl (by rw [d1]; rfl)) ?_
  simp -implicitDefEqProofs (disch:=first|decide|exact of_eq_true (eq_true rfl)|omega|assumption) only [m2,q2, ↓vcD,vcE,↓vcG,vcF,evs,evP,evB,intsOf,fillC,Value.cells,pt,Value.oneCell',reduceIte,reduceCtorEq,Nat.reduceEqDiff,Nat.reduceAdd,Nat.reduceMul,Nat.reduceLT,Nat.reduceBEq,Nat.reduceLeDiff,Nat.reduceSub]
  refine gen_str (xs:=g.2.2) (by decide) u_slB u_uint8 u_str rfl rfl (get_hq rfl (by rw [d2]; rfl)) ?_
  try simp -implicitDefEqProofs (disch:=first|decide|exact of_eq_true (eq_true rfl)|omega|assumption) only [↓vcD,vcE,↓vcG,vcF,evs,evP,evB,intsOf,fillC,Value.cells,pt,Value.oneCell',reduceIte,reduceCtorEq,Nat.reduceEqDiff,Nat.reduceAdd,Nat.reduceMul,Nat.reduceLT,Nat.reduceBEq,Nat.reduceLeDiff,Nat.reduceSub]
  refine gen_sne rfl rfl ?_
  try simp -implicitDefEqProofs (disch:=first|decide|exact of_eq_true (eq_true rfl)|omega|assumption) only [↓vcD,vcE,↓vcG,vcF,evs,evP,evB,intsOf,fillC,Value.cells,pt,Value.oneCell',reduceIte,reduceCtorEq,Nat.reduceEqDiff,Nat.reduceAdd,Nat.reduceMul,Nat.reduceLT,Nat.reduceBEq,Nat.reduceLeDiff,Nat.reduceSub]
  refine ITri.cond (v:=false) rfl (fun h=>by cases h) (fun _=>?_); refine ITri.skip ?_; simp only [SeqQ_normal,BlkQ_normal]
  refine ITri.reg pok ?_; simp -implicitDefEqProofs (disch:=first|decide|exact of_eq_true (eq_true rfl)|omega|assumption) only [hi1, ↓vcD,vcE,↓vcG,vcF,evs,evP,evB,intsOf,fillC,Value.cells,pt,Value.oneCell',reduceIte,reduceCtorEq,Nat.reduceEqDiff,Nat.reduceAdd,Nat.reduceMul,Nat.reduceLT,Nat.reduceBEq,Nat.reduceLeDiff,Nat.reduceSub]
  exact LoopQ.next (i + 1) (by omega) (by omega) (Wk.sub ⟨rfl,rfl,rfl,trivial⟩)
 refine ITri.exit ?_; try simp -implicitDefEqProofs (disch:=first|decide|exact of_eq_true (eq_true rfl)|omega|assumption) only [↓vcD,vcE,↓vcG,vcF,evs,evP,evB,intsOf,fillC,Value.cells,pt,Value.oneCell',reduceIte,reduceCtorEq,Nat.reduceEqDiff,Nat.reduceAdd,Nat.reduceMul,Nat.reduceLT,Nat.reduceBEq,Nat.reduceLeDiff,Nat.reduceSub]
 refine ITri.seq ?_
 refine ITri.reg pok ?_; simp -implicitDefEqProofs (disch:=first|decide|exact of_eq_true (eq_true rfl)|omega|assumption) only [↓vcD,vcE,↓vcG,vcF,evs,evP,evB,intsOf,fillC,Value.cells,pt,Value.oneCell',reduceIte,reduceCtorEq,Nat.reduceEqDiff,Nat.reduceAdd,Nat.reduceMul,Nat.reduceLT,Nat.reduceBEq,Nat.reduceLeDiff,Nat.reduceSub]
 refine ITri.ret ?_; exact EndX.mk (by simp) (by rfl) (by rfl) (by rfl)
end Go.Proofs.YtgjokhodccacoaaDoor
