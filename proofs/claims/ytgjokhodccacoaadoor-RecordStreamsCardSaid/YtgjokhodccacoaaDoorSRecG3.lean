import Derived.Test.YtgjokhodccacoaaDoorSRecG2
import Derived.Test.YtgjokhodccacoaaDoorSRecN3
set_option linter.unusedSimpArgs false
set_option linter.unusedVariables false
namespace Go.Vm
open Go Go.RowKit
section
variable {P:Program} {f k n b sz:Nat} {args cs:List Value} {L:List (Option AObj)} {mk:Value→Value} {op:Bool} {h:AH}
theorem Fc.tidy_mk (F : Fc P f args h (mk (.slice (some ⟨k, 0, none⟩) n openB)) (Hp b L)) (hid : h.hid = []) (hw : h.wlim = h.next) (hb : h.next = b) (hmk : MvV mk) (hk : b ≤ k) (hno : noAddrL cs = true) (hL : (L[k]?).join = some (.cells ⟨cs, sz, true⟩)) :
    Fc P f args h (mk (.slice (some ⟨b,0,none⟩) n openB)) (h.news [.cells ⟨cs,sz,true⟩]):=by
 subst hb
 refine Fc.gc F hid hw [k] [] rfl (by simp) (by simpa using hk) (fun p hp=>by cases hp) ?_ (hmk.ok _ _ _ ⟨by simp,trivial⟩) (fun i o2 hi=>.inr ?_)
 ·rw [hmk.mv]
  congr 1
  show _ = mvS .same ⟨(fun k'=>if k' < h.next then k' else [k].getD (k' - h.next) 0) h.next,0,none⟩ n openB
  simp [mvS]
 ·match i,hi with
  | 0,hi =>
   cases hi
   refine ⟨(by intro e; cases e),_,(by show (Hp h.next L).get k = _; rw [Hp_get]; exact hL),?_⟩
   exact ⟨(mvL_noAddr _ _ _ hno).symm,okML_noAddr _ _ _ hno,fun e=>e,fun e=>⟨e,rfl⟩⟩
theorem Fc.tidy_room (C : Nat) (F : Fc P f args h (mk (.slice (some ⟨k, 0, none⟩) n C)) (Hp b L)) (hid : h.hid = []) (hw : h.wlim = h.next) (hb : h.next = b) (hmk : MvV mk) (hk : b ≤ k) (hC : C ≤ 16777216) (hnC : n ≤ C) (hno : noAddrL cs = true) (hL : (L[k]?).join = some (.cells ⟨cs, sz, op⟩)) (hsz : sz ≠ 0) (hl : C * sz = cs.length) :
    Fc P f args h (mk (.slice (some ⟨b,0,none⟩) n openB)) (h.news [.cells ⟨cs,sz,true⟩]):=by
 subst hb
 have x1:xiL [(h.next,Xi.room C)] h.next = .room C:=by simp [xiL]
 have x0:xiL [(h.next,Xi.room C)] (h.next + 0) = .room C:=x1
 have ho:C < openB:=by unfold openB; omega
 refine Fc.gc F hid hw [k] [(h.next,.room C)] rfl (by simp) (by simpa using hk) (fun p hp=>by simp at hp; subst hp; exact ⟨Nat.le_refl _,roomOK C hC⟩) ?_ (hmk.ok _ _ _ ?_) (fun i o2 hi=>.inr ?_)
 ·rw [hmk.mv]
  congr 1
  show _ = mvS (xiL [(h.next,.room C)] h.next) ⟨(fun k'=>if k' < h.next then k' else [k].getD (k' - h.next) 0) h.next,0,none⟩ n openB
  rw [x1]
  simp [mvS]
 ·refine ⟨by simp,?_⟩
  show okS (xiL [(h.next,.room C)] h.next) n openB
  rw [x1]
  intro _
  exact ⟨by omega,by omega⟩
 ·match i,hi with
  | 0,hi =>
   cases hi
   rw [x0]
   refine ⟨(by intro e; cases e),_,(by show (Hp h.next L).get k = _; rw [Hp_get]; exact hL),?_⟩
   refine ⟨(mvL_noAddr _ _ _ hno).symm,okML_noAddr _ _ _ hno,fun e=>e,fun e=>?_⟩
   rw [x0]
   exact ⟨Nat.le_of_eq hl,fun z1=>by simp only at z1 ⊢; rw [z1] at hl; omega⟩
theorem Fc.tidy_nil (F : Fc P f args h (mk (.slice none 0 0)) (Hp b L)) (hid : h.hid = []) (hw : h.wlim = h.next) (hb : h.next = b) (hmk : MvV mk) :
    Fc P f args h (mk (.slice (some ⟨b,0,none⟩) 0 openB)) (h.news [.cells ⟨[],sz,true⟩]):=by
 subst hb
 refine Fc.gc F hid hw [h.next] [(h.next,.nil)] rfl (by simp) (by simp) (fun p hp=>by simp at hp; subst hp; exact ⟨Nat.le_refl _,trivial⟩) ?_ (hmk.ok _ _ _ ?_) (fun i o2 hi=>.inl ?_)
 ·rw [hmk.mv]
  congr 1
  show _ = mvS (xiL [(h.next,.nil)] h.next) _ 0 openB
  simp [mvS,xiL]
 ·refine ⟨by show h.next < h.next + 1; omega,?_⟩
  show okS (xiL [(h.next,.nil)] h.next) 0 openB
  simp [xiL,okS]
 ·match i,hi with
  | 0,hi =>
   cases hi
   exact ⟨by simp [xiL],rfl⟩
theorem gen_eqnil' {w : Bool} {t u : TypeId} {s : Nat} {l : Fr} {K : Value → AH → Prop} {el : TypeId} {a : Addr} {c : Nat} {bl : Blk} (hu : P.underlying t = some (.slice el)) (hm : memCmp .eql t = true) (hl : lk l s = some (.slice (some a) n c)) (hg : h.get a.block = some (.cells bl)) (hc : bl.cells ≠ []) (q : K (.bool false) h) :
    iStep P w (.gen (.binOp .eql t (.tmp s) (.const (.slice none 0 0)) u)) l h K:=by
 refine ⟨_,_,?_,q⟩
 have e1:aEnv (trOf l) (.tmp s) = some (.slice (some a) n c):=by simp only [aEnv,trOf_get,hl]
 have e2:aEnv (trOf l) (.const (.slice none 0 0)) = some (.slice none 0 0):=rfl
 have he:bl.cells.isEmpty = false:=by cases hb:bl.cells with
  | nil=>exact absurd hb hc
  | cons _ _=>rfl
 by_cases hn:n≠0∨(c < openB∧c≠0)
 ·simp only [aOp,e1,e2,noAddr,Bool.false_and,Bool.false_eq_true,if_false,aEq,hu,isNil]
  rw [if_pos hn]
 ·simp only [aOp,e1,e2,noAddr,Bool.false_and,Bool.false_eq_true,if_false,aEq,hu,isNil]
  rw [if_neg hn]
  simp only [hm,if_true,aNil,hu,hg,he,Bool.false_eq_true,if_false,ite_self]
end
end Go.Vm
namespace Go.Proofs.YtgjokhodccacoaaDoor
open Go.RowKit Go.Vm
set_option maxRecDepth 100000
def ir69_r0:IC:=.reg [⟨some 2,none,false,.mv (.k (.slice none 0 0))⟩] (some [0])
def ir69_r1:IC:=.reg [⟨some 3,none,false,.mv (.t 0)⟩,
 ⟨some 4,none,false,.gen (.binOp .eql 22 (.tmp 3) (.const (.slice none 0 0)) 22)⟩] (some [0,4])
def ir69_r2:IC:=.reg [⟨some 2,none,false,.mv (.k (.slice none 0 0))⟩] (some [2])
def ir69_1:IC:=.seq ir69_r2 .ret
def ir69_2:IC:=.cond (.t 4) ir69_1 .skip
def ir69_3:IC:=.seq ir69_r1 ir69_2
def ir69_r3:IC:=.reg [⟨some 5,none,false,.bsl 1 0 [] []⟩,
 ⟨some 6,none,false,.mv (.t 0)⟩,
 ⟨some 7,none,false,.app 1 1 (.t 5) (.t 6)⟩,
 ⟨some 2,none,false,.mv (.t 7)⟩] (some [2])
def ir69_4:IC:=.seq ir69_r3 .ret
def ir69_5:IC:=.seq ir69_3 ir69_4
def ir69_6:IC:=.seq ir69_r0 ir69_5
def ir69:IC:=ir69_6
theorem fn69:FnIs Tryd.prog 69 ir69 8 [.tmp 2]:=⟨Tryd.f69,Tryd.f69.body.getD .skip,Tryd.func69,by kernel_rfl,by kernel_rfl,by kernel_rfl,by kernel_rfl⟩
section
variable {wl ks a m n sz:Nat} {op:Bool} {L:List (Option AObj)} {cs:List Value} {xs:List Int}
theorem bys_ne (hx:Bys cs 0 xs) (hn:xs≠[]):cs≠[]:=by
 intro e
 have:0 < xs.length:=by cases xs with|nil=>exact absurd rfl hn|cons _ _=>simp
 have:=hx 0 this
 rw [e] at this
 simp at this
theorem bys_take {o:Nat} {ys:List Int} (h:Bys cs o ys):(cs.drop o).take ys.length = rows eB ys:=by
 apply List.ext_getElem?
 intro i
 rcases Nat.lt_or_ge i ys.length with hi|hi
 ·rw [List.getElem?_take_of_lt hi,List.getElem?_drop,h i hi,getB hi]
 ·rw [List.getElem?_eq_none (by rw [List.length_take]; omega),List.getElem?_eq_none (by rw [rows_len]; omega)]
theorem bys_len {o:Nat} {ys:List Int} (h:Bys cs o ys) (h0:ys≠[]):o + ys.length≤cs.length:=by
 have hl:0 < ys.length:=by cases ys with|nil=>exact absurd rfl h0|cons _ _=>simp
 have:=(List.getElem?_eq_some_iff.1 (h (ys.length - 1) (by omega))).1
 omega
theorem cloneB_0 (hS:(L[ks]?).join = some (.cells ⟨cs,sz,op⟩)) (hc:cs≠[]):Fc Tryd.prog 69 [.slice (some ⟨ks,0,none⟩) 0 0] (Hp wl L) (.slice (some ⟨L.length,0,none⟩) 0 0) (Hp wl (L++[some (.cells ⟨[],1,false⟩)])):=by
 refine Fc.introX fn69 (by simp) (fun hw=>grow_hq (by simp) (by have hw:wl≤L.length:=hw; rw [List.take_append_of_le_length hw])) ?_; simp only [argF]
 refine ITri.seq ?_
 refine ITri.reg pok ?_; simp -implicitDefEqProofs (disch:=first|decide|exact of_eq_true (eq_true rfl)|omega|assumption) only [↓vcD,vcE,↓vcG,vcF,evs,evP,evB,intsOf,fillC,Value.cells,pt,Value.oneCell',reduceIte,reduceCtorEq,Nat.reduceEqDiff,Nat.reduceAdd,Nat.reduceMul,Nat.reduceLT,Nat.reduceBEq,Nat.reduceLeDiff,Nat.reduceSub]
 refine ITri.seq ?_
 refine ITri.seq ?_
 refine ITri.reg pok ?_; simp -implicitDefEqProofs (disch:=first|decide|exact of_eq_true (eq_true rfl)|omega|assumption) only [↓vcD,vcE,↓vcG,vcF,evs,evP,evB,intsOf,fillC,Value.cells,pt,Value.oneCell',reduceIte,reduceCtorEq,Nat.reduceEqDiff,Nat.reduceAdd,Nat.reduceMul,Nat.reduceLT,Nat.reduceBEq,Nat.reduceLeDiff,Nat.reduceSub]
 refine gen_eqnil' u_slB rfl rfl (get_hq rfl hS) hc ?_
 try simp -implicitDefEqProofs (disch:=first|decide|exact of_eq_true (eq_true rfl)|omega|assumption) only [↓vcD,vcE,↓vcG,vcF,evs,evP,evB,intsOf,fillC,Value.cells,pt,Value.oneCell',reduceIte,reduceCtorEq,Nat.reduceEqDiff,Nat.reduceAdd,Nat.reduceMul,Nat.reduceLT,Nat.reduceBEq,Nat.reduceLeDiff,Nat.reduceSub]
 refine ITri.cond (v:=false) rfl (fun h=>by cases h) (fun _=>?_); refine ITri.skip ?_; simp only [SeqQ_normal,BlkQ_normal]
 refine ITri.seq ?_
 refine ITri.reg pok ?_; simp -implicitDefEqProofs (disch:=first|decide|exact of_eq_true (eq_true rfl)|omega|assumption) only [appK_0, ↓vcD,vcE,↓vcG,vcF,evs,evP,evB,intsOf,fillC,Value.cells,pt,Value.oneCell',reduceIte,reduceCtorEq,Nat.reduceEqDiff,Nat.reduceAdd,Nat.reduceMul,Nat.reduceLT,Nat.reduceBEq,Nat.reduceLeDiff,Nat.reduceSub]
 refine ITri.ret ?_; exact EndX.mk (by simp) (by rfl) (by rfl) (by rfl)
theorem cloneB_s {o c:Nat} {ys:List Int} (hS:(L[ks]?).join = some (.cells ⟨cs,sz,op⟩)) (hy:Bys cs o ys) (hm:ys.length = m) (h0:m≠0) (hb:m≤1000000):Fc Tryd.prog 69 [.slice (some ⟨ks,o,none⟩) m c] (Hp wl L) (sO (L.length + 1) m) (Hp wl (L++[some (.cells ⟨[],1,false⟩),some (.cells ⟨rows eB ys,1,true⟩)])):=by
 have hy0:ys≠[]:=by intro e; subst e; simp at hm; omega
 have ht:=bys_take hy
 have hl:=bys_len hy hy0
 rw [hm] at ht hl
 have hS' : ∀ T,(((L++T):List (Option AObj))[ks]?).join = some (.cells ⟨cs,sz,op⟩):=fun T=>by rw [List.getElem?_append_left (get_lt' hS)]; exact hS
 have hT:takeC cs o m = some (rows eB ys):=by rw [takeC_eq _ _ _ hl,ht]
 refine Fc.introX fn69 (by simp) (fun hw=>grow_hq (by simp) (by have hw:wl≤L.length:=hw; rw [List.take_append_of_le_length hw])) ?_; simp only [argF]
 refine ITri.seq ?_
 refine ITri.reg pok ?_; simp -implicitDefEqProofs (disch:=first|decide|exact of_eq_true (eq_true rfl)|omega|assumption) only [↓vcD,vcE,↓vcG,vcF,evs,evP,evB,intsOf,fillC,Value.cells,pt,Value.oneCell',reduceIte,reduceCtorEq,Nat.reduceEqDiff,Nat.reduceAdd,Nat.reduceMul,Nat.reduceLT,Nat.reduceBEq,Nat.reduceLeDiff,Nat.reduceSub]
 refine ITri.seq ?_
 refine ITri.seq ?_
 refine ITri.reg pok ?_; simp -implicitDefEqProofs (disch:=first|decide|exact of_eq_true (eq_true rfl)|omega|assumption) only [↓vcD,vcE,↓vcG,vcF,evs,evP,evB,intsOf,fillC,Value.cells,pt,Value.oneCell',reduceIte,reduceCtorEq,Nat.reduceEqDiff,Nat.reduceAdd,Nat.reduceMul,Nat.reduceLT,Nat.reduceBEq,Nat.reduceLeDiff,Nat.reduceSub]
 refine gen_eqnil' u_slB rfl rfl (get_hq rfl hS) (fun e=>by have e:cs = []:=e; rw [e] at hl; simp at hl; omega) ?_
 try simp -implicitDefEqProofs (disch:=first|decide|exact of_eq_true (eq_true rfl)|omega|assumption) only [↓vcD,vcE,↓vcG,vcF,evs,evP,evB,intsOf,fillC,Value.cells,pt,Value.oneCell',reduceIte,reduceCtorEq,Nat.reduceEqDiff,Nat.reduceAdd,Nat.reduceMul,Nat.reduceLT,Nat.reduceBEq,Nat.reduceLeDiff,Nat.reduceSub]
 refine ITri.cond (v:=false) rfl (fun h=>by cases h) (fun _=>?_); refine ITri.skip ?_; simp only [SeqQ_normal,BlkQ_normal]
 refine ITri.seq ?_
 refine ITri.reg pok ?_; simp -implicitDefEqProofs (disch:=first|decide|exact of_eq_true (eq_true rfl)|omega|assumption) only [hS',hT,rows_allT,apd_get,apd_get0,List.length_append,List.append_assoc,Nat.add_assoc, ↓vcD,vcE,↓vcG,vcF,evs,evP,evB,intsOf,fillC,Value.cells,pt,Value.oneCell',reduceIte,reduceCtorEq,Nat.reduceEqDiff,Nat.reduceAdd,Nat.reduceMul,Nat.reduceLT,Nat.reduceBEq,Nat.reduceLeDiff,Nat.reduceSub]
 refine ITri.ret ?_; exact EndX.mk (by simp) (by rfl) (by rfl) (by rfl)
end
def th65 (v:Value):List (IOp×Bool×Nat×Nat):=[(⟨some 3,none,false,.mv (.k v)⟩,false,0,0),
 (⟨some 4,none,false,.ldc (.t 0)⟩,true,0,0),
 (⟨some 5,none,false,.call (.f 66) [(.t 3),(.t 4)]⟩,true,3,0),
 (⟨none,none,false,.st 1 (.t 0) (.t 5)⟩,true,7,0)]
def ir65_r1:IC:=.reg [⟨some 6,none,false,.ldc (.t 0)⟩,
 ⟨some 7,none,false,.cmp .neq (.t 6) (.k (.int .i64 0))⟩] (some [1,2,7])
def ir65_r2:IC:=.reg [⟨some 8,none,false,.bld [(.int .i64 0),(.slice none 0 0)] []⟩,
 ⟨none,none,false,.st 2 (.t 1) (.t 8)⟩,
 ⟨none,none,false,.st 1 (.t 2) (.k (.int .i64 0))⟩] (some [])
def ir65_1:IC:=.cond (.t 7) ir65_r2 .skip
def ir65_2:IC:=.seq ir65_r1 ir65_1
theorem fthn65:ThIs Tryd.prog 65 .nilIface (th65 .nilIface) [ir65_2] 9 []:=⟨Tryd.f65,Tryd.f65.body.getD .skip,Tryd.func65,by kernel_rfl,by kernel_rfl,by kernel_rfl,by kernel_rfl⟩
theorem fthe65 (e:Int):ThIs Tryd.prog 65 (.iface 26 (.int .i64 e)) (th65 (.iface 26 (.int .i64 e))) [ir65_2] 9 []:=⟨Tryd.f65,Tryd.f65.body.getD .skip,Tryd.func65,by kernel_rfl,by kernel_rfl,by kernel_rfl,by kernel_rfl⟩
def ir25_r0:IC:=.reg [⟨some 4,none,false,.alloc [(.int .i64 0),(.slice none 0 0)]⟩,
 ⟨some 5,none,false,.alloc [(.int .i64 0)]⟩,
 ⟨some 6,none,false,.alloc [(.int .i64 0)]⟩] (some [0,1,4,5,6])
def ir25_r2:IC:=.reg [⟨some 11,none,false,.mv (.t 0)⟩,
 ⟨some 12,none,false,.mv (.t 1)⟩,
 ⟨some 13,none,false,.call (.f 67) [(.t 11),(.t 12)]⟩,
 ⟨some 7,none,false,.mv (.t 13)⟩] (some [4,5,6,7])
def ir25_r3:IC:=.reg [⟨some 15,none,false,.mv (.t 7)⟩,
 ⟨some 16,none,false,.call (.f 68) [(.t 15)]⟩,
 ⟨some 14,none,false,.mv (.t 16)⟩,
 ⟨some 17,none,false,.ext (.t 14) 0⟩,
 ⟨some 18,none,false,.ext (.t 14) 1⟩,
 ⟨some 8,none,false,.mv (.t 17)⟩,
 ⟨some 9,none,false,.mv (.t 18)⟩] (some [4,5,6,7,8,9])
def ir25_r4:IC:=.drawF [(⟨some 19,none,false,.mv (.t 8)⟩,false,0,0),
 (⟨some 20,none,false,.mv (.t 9)⟩,false,0,0),
 (⟨some 21,none,false,.call (.f 69) [(.t 20)]⟩,true,2,0),
 (⟨some 22,none,false,.bld [(.int .i64 0),(.slice none 0 0)] [(0,1,(.t 19)),(1,1,(.t 21))]⟩,false,7,0),
 (⟨some 23,none,false,.mv (.t 7)⟩,false,0,0),
 (⟨some 24,none,false,.nilck (.t 23)⟩,false,16,0),
 (⟨some 25,none,false,.fad 1 (.t 24)⟩,false,48,0),
 (⟨some 26,none,false,.ldc (.t 25)⟩,true,112,2),
 (⟨none,none,false,.st 2 (.t 4) (.t 22)⟩,true,15,0),
 (⟨none,none,false,.st 1 (.t 5) (.t 26)⟩,true,511,1),
 (⟨none,none,false,.st 1 (.t 6) (.k (.int .i64 0))⟩,true,1023,1)] (some [4,5,6])
def ir25_1:IC:=.seq ir25_r4 .ret
def ir25_2:IC:=.seq ir25_r3 ir25_1
def ir25_3:IC:=.seq ir25_r2 ir25_2
def ir25_dops:List IOp:=[⟨some 10,none,false,.mkf 65 [] [(.t 6),(.t 4),(.t 5)]⟩]
def dc25:DC:=(.seq ir25_r0 (.dfr ir25_dops (some [0,1,4,5,6]) (.t 10) [] none ir25_3))
theorem fd25:FnD Tryd.prog 25 dc25 27 [.cell 4 30,.cell 5 3,.cell 6 26]:=⟨Tryd.f25,Tryd.f25.body.getD .skip,Tryd.func25,by kernel_rfl,by kernel_rfl,by kernel_rfl,by kernel_rfl⟩
abbrev fBx (kd:Int) (s:Value):Option AObj:=some (.cells ⟨[.int .i64 kd,s],1,false⟩)
section
variable {src:Option AObj} {T:List (Option AObj)}
theorem th65_n {kd b:Int} {s:Value}:Th Tryd.prog 65 [pt 4,pt 2,pt 3] .nilIface (Hp 2 (none :: src :: fBx kd s :: bx b :: bx 0 :: T)) (fun h=>h = Hp 2 (none :: src :: fBx kd s :: bx b :: bx 0 :: T)):=by
 refine Th.intro pok fthn65 (by simp) ?_
 simp only [argF,th65]
 try simp -implicitDefEqProofs (disch:=first|decide|exact of_eq_true (eq_true rfl)|omega|assumption) only [↓vcD,vcE,↓vcG,vcF,evs,evP,evB,intsOf,fillC,Value.cells,pt,Value.oneCell',reduceIte,reduceCtorEq,Nat.reduceEqDiff,Nat.reduceAdd,Nat.reduceMul,Nat.reduceLT,Nat.reduceBEq,Nat.reduceLeDiff,Nat.reduceSub]
 refine ⟨_,_,caught_n 0 (sees0 rfl (of_decide_eq_true rfl)),?_⟩
 try simp -implicitDefEqProofs (disch:=first|decide|exact of_eq_true (eq_true rfl)|omega|assumption) only [↓vcD,vcE,↓vcG,vcF,evs,evP,evB,intsOf,fillC,Value.cells,pt,Value.oneCell',reduceIte,reduceCtorEq,Nat.reduceEqDiff,Nat.reduceAdd,Nat.reduceMul,Nat.reduceLT,Nat.reduceBEq,Nat.reduceLeDiff,Nat.reduceSub]
 show ITri _ _ _ _ _ _ _ _ _
 refine ITri.seq ?_
 refine ITri.reg pok ?_; simp -implicitDefEqProofs (disch:=first|decide|exact of_eq_true (eq_true rfl)|omega|assumption) only [ne_eq,not_true_eq_false,decide_false, ↓vcD,vcE,↓vcG,vcF,evs,evP,evB,intsOf,fillC,Value.cells,pt,Value.oneCell',reduceIte,reduceCtorEq,Nat.reduceEqDiff,Nat.reduceAdd,Nat.reduceMul,Nat.reduceLT,Nat.reduceBEq,Nat.reduceLeDiff,Nat.reduceSub]
 refine ITri.cond (v:=false) rfl (fun h=>by cases h) (fun _=>?_); refine ITri.skip ?_
 exact EndT.mk (by simp) resF_nil rfl
theorem th65_e {kd b e x:Int} {s:Value} (hx:x≠0):Th Tryd.prog 65 [pt 4,pt 2,pt 3] (errV x) (Hp 2 (none :: src :: fBx kd s :: bx b :: bx e :: T)) (fun h=>h = Hp 2 (none :: src :: fBx 0 (.slice none 0 0) :: bx 0 :: bx x :: T)):=by
 refine Th.intro pok (fthe65 x) (by simp) ?_
 simp only [argF,th65]
 try simp -implicitDefEqProofs (disch:=first|decide|exact of_eq_true (eq_true rfl)|omega|assumption) only [↓vcD,vcE,↓vcG,vcF,evs,evP,evB,intsOf,fillC,Value.cells,pt,Value.oneCell',reduceIte,reduceCtorEq,Nat.reduceEqDiff,Nat.reduceAdd,Nat.reduceMul,Nat.reduceLT,Nat.reduceBEq,Nat.reduceLeDiff,Nat.reduceSub]
 refine ⟨_,_,caught_e x e (sees0 rfl (of_decide_eq_true rfl)),?_⟩
 try simp -implicitDefEqProofs (disch:=first|decide|exact of_eq_true (eq_true rfl)|omega|assumption) only [↓vcD,vcE,↓vcG,vcF,evs,evP,evB,intsOf,fillC,Value.cells,pt,Value.oneCell',reduceIte,reduceCtorEq,Nat.reduceEqDiff,Nat.reduceAdd,Nat.reduceMul,Nat.reduceLT,Nat.reduceBEq,Nat.reduceLeDiff,Nat.reduceSub]
 show ITri _ _ _ _ _ _ _ _ _
 refine ITri.seq ?_
 refine ITri.reg pok ?_; simp -implicitDefEqProofs (disch:=first|decide|exact of_eq_true (eq_true rfl)|omega|assumption) only [hx,ne_eq,not_false_eq_true,decide_true, ↓vcD,vcE,↓vcG,vcF,evs,evP,evB,intsOf,fillC,Value.cells,pt,Value.oneCell',reduceIte,reduceCtorEq,Nat.reduceEqDiff,Nat.reduceAdd,Nat.reduceMul,Nat.reduceLT,Nat.reduceBEq,Nat.reduceLeDiff,Nat.reduceSub]
 refine ITri.cond (v:=true) rfl (fun _=>?_) (fun h=>by cases h)
 refine ITri.reg pok ?_; simp -implicitDefEqProofs (disch:=first|decide|exact of_eq_true (eq_true rfl)|omega|assumption) only [↓vcD,vcE,↓vcG,vcF,evs,evP,evB,intsOf,fillC,Value.cells,pt,Value.oneCell',reduceIte,reduceCtorEq,Nat.reduceEqDiff,Nat.reduceAdd,Nat.reduceMul,Nat.reduceLT,Nat.reduceBEq,Nat.reduceLeDiff,Nat.reduceSub]
 exact EndT.mk (by simp) resF_nil rfl
end
def getR (xs:List Int) (at_:Int):Int×List Int×Int×Int :=
 if 30000 < xs.length then (0,[],0,5) else if at_ < 0∨(xs.length:Int) < at_ then (0,[],0,3) else match frF xs at_.toNat with
  | .ok kd a m nx=>(kd,sub xs a m,nx,0)
  | .err e _=>(0,[],0,e)
theorem frF_e {xs:List Int} {at_ nx:Nat} {e:Int} (h:frF xs at_ = .err e nx):e≠0:=by
 unfold frF at h
 split at h
 ·injection h with h; omega
 split at h
 ·injection h with h; omega
 split at h
 ·rename_i hr
  injection h with h1 h2
  subst h1
  exact numG_e 9 0 hr
 ·split at h
  ·injection h with h; omega
  split at h
  ·injection h with h; omega
  split at h
  ·injection h with h; omega
  ·cases h
theorem frF_ok {xs:List Int} {at_ a m nx:Nat} {kd:Int} (h:frF xs at_ = .ok kd a m nx):at_ + 2≤a∧nx = a + m + 2∧nx≤xs.length∧m≤10000∧1≤kd∧kd≤250∧kd = nth xs at_:=by
 unfold frF at h
 split at h
 ·cases h
 split at h
 ·cases h
 split at h
 ·cases h
 ·rename_i v nx' hr
  obtain ⟨b1,b2,b3,b4,b5⟩:=numG_bd 9 0 (by omega) hr
  split at h
  ·cases h
  split at h
  ·cases h
  split at h
  ·cases h
  ·injection h with h1 h2 h3 h4
   subst h2 h3 h4
   refine ⟨by omega,rfl,by omega,by omega,by omega,by omega,h1.symm⟩
abbrev gtV (b:Nat) (r:Int×List Int×Int×Int):Value:=.tuple #[.agg #[.int .i64 r.1,sO b r.2.1.length],.int .i64 r.2.2.1,.int .i64 r.2.2.2]
theorem mvG (kd nx e:Int):MvV fun s=>.tuple #[.agg #[.int .i64 kd,s],.int .i64 nx,.int .i64 e]:=⟨fun _ _ _=>rfl,fun _ _ _ h=>⟨⟨trivial,h,trivial⟩,trivial,trivial,trivial⟩⟩
theorem get_c (n : Nat) (at_ : Int) (xs : List Int) (hn : xs.length = n) (hB : isB xs) (hb : n ≤ 1000000) :
    Fc Tryd.prog 25 [.slice (some ⟨1,0,none⟩) n openB,.int .i64 at_] (Hp 2 [none,srB xs]) (gtV 2 (getR xs at_)) ((Hp 2 [none,srB xs]).news [.cells ⟨rows eB (getR xs at_).2.1,1,true⟩]):=by
 by_cases h1:30000 < n∨at_ < 0∨(n:Int) < at_
 ·have e : getR xs at_ = (0, [], 0, nrE n at_) := by
    unfold getR nrE
    rw [hn]
    split
    ·rfl
    ·rw [if_pos (by omega)]
  have hne:nrE n at_≠0:=by unfold nrE; split <;> decide
  rw [e]
  refine Fc.tidy_nil (L:=[none,srB xs,fBx 0 (.slice none 0 0),bx 0,bx (nrE n at_)]) (mk:=fun s=>.tuple #[.agg #[.int .i64 0,s],.int .i64 0,.int .i64 (nrE n at_)]) ?_ rfl rfl rfl (mvG _ _ _)
  refine Fc.introD fd25 (by simp) (fun _=>grow_hq (by simp) rfl) ?_; simp only [argF]
  refine DTri.seq ?_
  refine ITri.reg pok ?_; simp -implicitDefEqProofs (disch:=first|decide|exact of_eq_true (eq_true rfl)|omega|assumption) only [↓vcD,vcE,↓vcG,vcF,evs,evP,evB,intsOf,fillC,Value.cells,pt,Value.oneCell',reduceIte,reduceCtorEq,Nat.reduceEqDiff,Nat.reduceAdd,Nat.reduceMul,Nat.reduceLT,Nat.reduceBEq,Nat.reduceLeDiff,Nat.reduceSub]
  refine DSeqQ_n (DTri.dfr pok ?_)
  unfold ir25_dops
  try simp -implicitDefEqProofs (disch:=first|decide|exact of_eq_true (eq_true rfl)|omega|assumption) only [↓vcD,vcE,↓vcG,vcF,evs,evP,evB,intsOf,fillC,Value.cells,pt,Value.oneCell',reduceIte,reduceCtorEq,Nat.reduceEqDiff,Nat.reduceAdd,Nat.reduceMul,Nat.reduceLT,Nat.reduceBEq,Nat.reduceLeDiff,Nat.reduceSub]
  refine ⟨_,_,_,_,rfl,rfl,?_⟩
  refine ITri.seq ?_
  refine ITri.regP 2 pok ?_; simp -implicitDefEqProofs (disch:=first|decide|exact of_eq_true (eq_true rfl)|omega|assumption) only [ iRowP_s,iRowP_0,iRowP_on,iRowP_off,iRowP_un,iStepP_call, ↓vcD,vcE,↓vcG,vcF,evs,evP,evB,intsOf,fillC,Value.cells,pt,Value.oneCell',reduceIte,reduceCtorEq,Nat.reduceEqDiff,Nat.reduceAdd,Nat.reduceMul,Nat.reduceLT,Nat.reduceBEq,Nat.reduceLeDiff,Nat.reduceSub]
  refine ⟨_,_,newReader_err h1 hb,?_⟩
  simp only [SeqQ_pan,BlkQ_pan,LoopQ_pan,CutQ_pan]
  refine ⟨by trivial,(fun _ h=>by cases h),?_⟩
  refine Th.mono (th65_e hne) ?_
  rintro _ rfl
  exact ⟨[.agg #[.int .i64 0,.slice none 0 0],.int .i64 0,.int .i64 (nrE n at_)],resF_agg 2 rfl (by kernel_rfl) (by simp -implicitDefEqProofs (disch:=first|decide|exact of_eq_true (eq_true rfl)|omega|assumption) only [↓vcD,vcE,↓vcG,vcF,evs,evP,evB,intsOf,fillC,Value.cells,pt,Value.oneCell',reduceIte,reduceCtorEq,Nat.reduceEqDiff,Nat.reduceAdd,Nat.reduceMul,Nat.reduceLT,Nat.reduceBEq,Nat.reduceLeDiff,Nat.reduceSub]) (resF_cell rfl okc_int (by simp -implicitDefEqProofs (disch:=first|decide|exact of_eq_true (eq_true rfl)|omega|assumption) only [↓vcD,vcE,↓vcG,vcF,evs,evP,evB,intsOf,fillC,Value.cells,pt,Value.oneCell',reduceIte,reduceCtorEq,Nat.reduceEqDiff,Nat.reduceAdd,Nat.reduceMul,Nat.reduceLT,Nat.reduceBEq,Nat.reduceLeDiff,Nat.reduceSub]) (resF_cell rfl okc_errno (by simp -implicitDefEqProofs (disch:=first|decide|exact of_eq_true (eq_true rfl)|omega|assumption) only [↓vcD,vcE,↓vcG,vcF,evs,evP,evB,intsOf,fillC,Value.cells,pt,Value.oneCell',reduceIte,reduceCtorEq,Nat.reduceEqDiff,Nat.reduceAdd,Nat.reduceMul,Nat.reduceLT,Nat.reduceBEq,Nat.reduceLeDiff,Nat.reduceSub]) resF_nil)),rfl,rfl⟩
 obtain ⟨k,rfl⟩:=Int.eq_ofNat_of_zero_le (show 0≤at_ by omega)
 have hk:k≤n:=by omega
 have e0:getR xs k = match frF xs k with
  | .ok kd a m nx=>(kd,sub xs a m,(nx:Int),0)
  | .err e _=>(0,[],0,e):=by
  unfold getR
  rw [hn,if_neg (by omega),if_neg (by omega),Int.toNat_natCast]
 have hR:(([none,srB xs,fBx 0 (.slice none 0 0),bx 0,bx 0,some (rdC 1 0 n openB k)]:List (Option AObj))[5]?).join = some (rdC 1 0 n openB k):=rfl
 cases hr:frF xs k with
 | err e nx =>
  have hne:=frF_e hr
  rw [hr] at e0
  rw [e0]
  refine Fc.tidy_nil (L:=[none,srB xs,fBx 0 (.slice none 0 0),bx 0,bx e,some (rdC 1 0 n openB nx)]) (mk:=fun s=>.tuple #[.agg #[.int .i64 0,s],.int .i64 0,.int .i64 e]) ?_ rfl rfl rfl (mvG _ _ _)
  refine Fc.introD fd25 (by simp) (fun _=>grow_hq (by simp) rfl) ?_; simp only [argF]
  refine DTri.seq ?_
  refine ITri.reg pok ?_; simp -implicitDefEqProofs (disch:=first|decide|exact of_eq_true (eq_true rfl)|omega|assumption) only [↓vcD,vcE,↓vcG,vcF,evs,evP,evB,intsOf,fillC,Value.cells,pt,Value.oneCell',reduceIte,reduceCtorEq,Nat.reduceEqDiff,Nat.reduceAdd,Nat.reduceMul,Nat.reduceLT,Nat.reduceBEq,Nat.reduceLeDiff,Nat.reduceSub]
  refine DSeqQ_n (DTri.dfr pok ?_)
  unfold ir25_dops
  try simp -implicitDefEqProofs (disch:=first|decide|exact of_eq_true (eq_true rfl)|omega|assumption) only [↓vcD,vcE,↓vcG,vcF,evs,evP,evB,intsOf,fillC,Value.cells,pt,Value.oneCell',reduceIte,reduceCtorEq,Nat.reduceEqDiff,Nat.reduceAdd,Nat.reduceMul,Nat.reduceLT,Nat.reduceBEq,Nat.reduceLeDiff,Nat.reduceSub]
  refine ⟨_,_,_,_,rfl,rfl,?_⟩
  refine ITri.seq ?_
  refine ITri.reg pok ?_; simp -implicitDefEqProofs (disch:=first|decide|exact of_eq_true (eq_true rfl)|omega|assumption) only [↓vcD,vcE,↓vcG,vcF,evs,evP,evB,intsOf,fillC,Value.cells,pt,Value.oneCell',reduceIte,reduceCtorEq,Nat.reduceEqDiff,Nat.reduceAdd,Nat.reduceMul,Nat.reduceLT,Nat.reduceBEq,Nat.reduceLeDiff,Nat.reduceSub]
  refine ⟨_,_,newReader_ok k (by omega) hk,?_⟩
  try simp -implicitDefEqProofs (disch:=first|decide|exact of_eq_true (eq_true rfl)|omega|assumption) only [↓vcD,vcE,↓vcG,vcF,evs,evP,evB,intsOf,fillC,Value.cells,pt,Value.oneCell',reduceIte,reduceCtorEq,Nat.reduceEqDiff,Nat.reduceAdd,Nat.reduceMul,Nat.reduceLT,Nat.reduceBEq,Nat.reduceLeDiff,Nat.reduceSub]
  refine ITri.seq ?_
  refine ITri.regP 1 pok ?_; simp -implicitDefEqProofs (disch:=first|decide|exact of_eq_true (eq_true rfl)|omega|assumption) only [ iRowP_s,iRowP_0,iRowP_on,iRowP_off,iRowP_un,iStepP_call, ↓vcD,vcE,↓vcG,vcF,evs,evP,evB,intsOf,fillC,Value.cells,pt,Value.oneCell',reduceIte,reduceCtorEq,Nat.reduceEqDiff,Nat.reduceAdd,Nat.reduceMul,Nat.reduceLT,Nat.reduceBEq,Nat.reduceLeDiff,Nat.reduceSub]
  refine ⟨_,_,frame_err hr (by decide) (by decide) hR rfl (bys_rows xs) hB hn hb hk,?_⟩
  simp only [SeqQ_pan,BlkQ_pan,LoopQ_pan,CutQ_pan]
  refine ⟨by trivial,(fun _ h=>by cases h),?_⟩
  refine Th.mono (th65_e hne) ?_
  rintro _ rfl
  exact ⟨[.agg #[.int .i64 0,.slice none 0 0],.int .i64 0,.int .i64 e],resF_agg 2 rfl (by kernel_rfl) (by simp -implicitDefEqProofs (disch:=first|decide|exact of_eq_true (eq_true rfl)|omega|assumption) only [↓vcD,vcE,↓vcG,vcF,evs,evP,evB,intsOf,fillC,Value.cells,pt,Value.oneCell',reduceIte,reduceCtorEq,Nat.reduceEqDiff,Nat.reduceAdd,Nat.reduceMul,Nat.reduceLT,Nat.reduceBEq,Nat.reduceLeDiff,Nat.reduceSub]) (resF_cell rfl okc_int (by simp -implicitDefEqProofs (disch:=first|decide|exact of_eq_true (eq_true rfl)|omega|assumption) only [↓vcD,vcE,↓vcG,vcF,evs,evP,evB,intsOf,fillC,Value.cells,pt,Value.oneCell',reduceIte,reduceCtorEq,Nat.reduceEqDiff,Nat.reduceAdd,Nat.reduceMul,Nat.reduceLT,Nat.reduceBEq,Nat.reduceLeDiff,Nat.reduceSub]) (resF_cell rfl okc_errno (by simp -implicitDefEqProofs (disch:=first|decide|exact of_eq_true (eq_true rfl)|omega|assumption) only [↓vcD,vcE,↓vcG,vcF,evs,evP,evB,intsOf,fillC,Value.cells,pt,Value.oneCell',reduceIte,reduceCtorEq,Nat.reduceEqDiff,Nat.reduceAdd,Nat.reduceMul,Nat.reduceLT,Nat.reduceBEq,Nat.reduceLeDiff,Nat.reduceSub]) resF_nil)),rfl,rfl⟩
 | ok kd a m nx =>
  obtain ⟨b1,b2,b3,b4,b5,b6,b7⟩:=frF_ok hr
  have hsl:(sub xs a m).length = m:=sub_len (by omega)
  have hne:rows eB xs≠[]:=bys_ne (bys_rows xs) (fun e=>by subst e; simp at b3; omega)
  rw [hr] at e0
  simp only at e0
  rw [e0,gtV,hsl]
  by_cases hm:m = 0
  ·subst hm
   have hs0:sub xs a 0 = []:=List.eq_nil_of_length_eq_zero hsl
   rw [hs0]
   refine Fc.tidy_room (k:=6) (op:=false) (L:=[none,srB xs,fBx kd (.slice (some ⟨6,0,none⟩) 0 0),bx nx,bx 0,some (rdC 1 0 n openB nx),some (.cells ⟨[],1,false⟩)]) (mk:=fun s=>.tuple #[.agg #[.int .i64 kd,s],.int .i64 nx,.int .i64 0]) 0 ?_ rfl rfl rfl (mvG _ _ _) (by decide) (by decide) (by decide) rfl rfl (by decide) (by first|rfl|simp)
   refine Fc.introD fd25 (by simp) (fun _=>grow_hq (by simp) rfl) ?_; simp only [argF]
   refine DTri.seq ?_
   refine ITri.reg pok ?_; simp -implicitDefEqProofs (disch:=first|decide|exact of_eq_true (eq_true rfl)|omega|assumption) only [↓vcD,vcE,↓vcG,vcF,evs,evP,evB,intsOf,fillC,Value.cells,pt,Value.oneCell',reduceIte,reduceCtorEq,Nat.reduceEqDiff,Nat.reduceAdd,Nat.reduceMul,Nat.reduceLT,Nat.reduceBEq,Nat.reduceLeDiff,Nat.reduceSub]
   refine DSeqQ_n (DTri.dfr pok ?_)
   unfold ir25_dops
   try simp -implicitDefEqProofs (disch:=first|decide|exact of_eq_true (eq_true rfl)|omega|assumption) only [↓vcD,vcE,↓vcG,vcF,evs,evP,evB,intsOf,fillC,Value.cells,pt,Value.oneCell',reduceIte,reduceCtorEq,Nat.reduceEqDiff,Nat.reduceAdd,Nat.reduceMul,Nat.reduceLT,Nat.reduceBEq,Nat.reduceLeDiff,Nat.reduceSub]
   refine ⟨_,_,_,_,rfl,rfl,?_⟩
   refine ITri.seq ?_
   refine ITri.reg pok ?_; simp -implicitDefEqProofs (disch:=first|decide|exact of_eq_true (eq_true rfl)|omega|assumption) only [↓vcD,vcE,↓vcG,vcF,evs,evP,evB,intsOf,fillC,Value.cells,pt,Value.oneCell',reduceIte,reduceCtorEq,Nat.reduceEqDiff,Nat.reduceAdd,Nat.reduceMul,Nat.reduceLT,Nat.reduceBEq,Nat.reduceLeDiff,Nat.reduceSub]
   refine ⟨_,_,newReader_ok k (by omega) hk,?_⟩
   try simp -implicitDefEqProofs (disch:=first|decide|exact of_eq_true (eq_true rfl)|omega|assumption) only [↓vcD,vcE,↓vcG,vcF,evs,evP,evB,intsOf,fillC,Value.cells,pt,Value.oneCell',reduceIte,reduceCtorEq,Nat.reduceEqDiff,Nat.reduceAdd,Nat.reduceMul,Nat.reduceLT,Nat.reduceBEq,Nat.reduceLeDiff,Nat.reduceSub]
   refine ITri.seq ?_
   refine ITri.reg pok ?_; simp -implicitDefEqProofs (disch:=first|decide|exact of_eq_true (eq_true rfl)|omega|assumption) only [↓vcD,vcE,↓vcG,vcF,evs,evP,evB,intsOf,fillC,Value.cells,pt,Value.oneCell',reduceIte,reduceCtorEq,Nat.reduceEqDiff,Nat.reduceAdd,Nat.reduceMul,Nat.reduceLT,Nat.reduceBEq,Nat.reduceLeDiff,Nat.reduceSub]
   refine ⟨_,_,frame_ok hr (by decide) (by decide) hR rfl (bys_rows xs) hB hn hb hk,?_⟩
   try simp -implicitDefEqProofs (disch:=first|decide|exact of_eq_true (eq_true rfl)|omega|assumption) only [↓vcD,vcE,↓vcG,vcF,evs,evP,evB,intsOf,fillC,Value.cells,pt,Value.oneCell',reduceIte,reduceCtorEq,Nat.reduceEqDiff,Nat.reduceAdd,Nat.reduceMul,Nat.reduceLT,Nat.reduceBEq,Nat.reduceLeDiff,Nat.reduceSub]
   refine ITri.seq ?_
   refine ITri.drawF [5] pok ?_; simp -implicitDefEqProofs (disch:=first|decide|exact of_eq_true (eq_true rfl)|omega|assumption) only [  ↓vcD,vcE,↓vcG,vcF,evs,evP,evB,intsOf,fillC,Value.cells,pt,Value.oneCell',reduceIte,reduceCtorEq,Nat.reduceEqDiff,Nat.reduceAdd,Nat.reduceMul,Nat.reduceLT,Nat.reduceBEq,Nat.reduceLeDiff,Nat.reduceSub]
   refine ⟨_,_,cloneB_0 rfl hne,?_⟩
   try simp -implicitDefEqProofs (disch:=first|decide|exact of_eq_true (eq_true rfl)|omega|assumption) only [↓vcD,vcE,↓vcG,vcF,evs,evP,evB,intsOf,fillC,Value.cells,pt,Value.oneCell',reduceIte,reduceCtorEq,Nat.reduceEqDiff,Nat.reduceAdd,Nat.reduceMul,Nat.reduceLT,Nat.reduceBEq,Nat.reduceLeDiff,Nat.reduceSub]
   refine ITri.ret ?_
   refine ⟨by trivial,(fun _ h=>by cases h),?_⟩
   refine Th.mono th65_n ?_
   rintro _ rfl
   exact ⟨[.agg #[.int .i64 kd,.slice (some ⟨6,0,none⟩) 0 0],.int .i64 nx,.int .i64 0],resF_agg 2 rfl (by kernel_rfl) (by simp -implicitDefEqProofs (disch:=first|decide|exact of_eq_true (eq_true rfl)|omega|assumption) only [↓vcD,vcE,↓vcG,vcF,evs,evP,evB,intsOf,fillC,Value.cells,pt,Value.oneCell',reduceIte,reduceCtorEq,Nat.reduceEqDiff,Nat.reduceAdd,Nat.reduceMul,Nat.reduceLT,Nat.reduceBEq,Nat.reduceLeDiff,Nat.reduceSub]) (resF_cell rfl okc_int (by simp -implicitDefEqProofs (disch:=first|decide|exact of_eq_true (eq_true rfl)|omega|assumption) only [↓vcD,vcE,↓vcG,vcF,evs,evP,evB,intsOf,fillC,Value.cells,pt,Value.oneCell',reduceIte,reduceCtorEq,Nat.reduceEqDiff,Nat.reduceAdd,Nat.reduceMul,Nat.reduceLT,Nat.reduceBEq,Nat.reduceLeDiff,Nat.reduceSub]) (resF_cell rfl okc_errno (by simp -implicitDefEqProofs (disch:=first|decide|exact of_eq_true (eq_true rfl)|omega|assumption) only [↓vcD,vcE,↓vcG,vcF,evs,evP,evB,intsOf,fillC,Value.cells,pt,Value.oneCell',reduceIte,reduceCtorEq,Nat.reduceEqDiff,Nat.reduceAdd,Nat.reduceMul,Nat.reduceLT,Nat.reduceBEq,Nat.reduceLeDiff,Nat.reduceSub]) resF_nil)),rfl,rfl⟩
  ·refine Fc.tidy_mk (k:=7) (L:=[none,srB xs,fBx kd (sO 7 m),bx nx,bx 0,some (rdC 1 0 n openB nx),some (.cells ⟨[],1,false⟩),some (.cells ⟨rows eB (sub xs a m),1,true⟩)]) (mk:=fun s=>.tuple #[.agg #[.int .i64 kd,s],.int .i64 nx,.int .i64 0]) ?_ rfl rfl rfl (mvG _ _ _) (by decide) (rows_no (f:=eB) _) rfl
   have hpl:plV 1 a m = .slice (some ⟨1,a,none⟩) m m:=by rw [plV,if_neg hm]
   have hfr:=frame_ok (wl:=2) hr (by decide) (by decide) hR rfl (bys_rows xs) hB hn hb hk
   rw [hpl] at hfr
   have hby:Bys (rows eB xs) a (sub xs a m):=by have:=bys_sub (a:=a) (m:=m) (bys_rows xs) (by omega); rwa [Nat.zero_add] at this
   refine Fc.introD fd25 (by simp) (fun _=>grow_hq (by simp) rfl) ?_; simp only [argF]
   refine DTri.seq ?_
   refine ITri.reg pok ?_; simp -implicitDefEqProofs (disch:=first|decide|exact of_eq_true (eq_true rfl)|omega|assumption) only [↓vcD,vcE,↓vcG,vcF,evs,evP,evB,intsOf,fillC,Value.cells,pt,Value.oneCell',reduceIte,reduceCtorEq,Nat.reduceEqDiff,Nat.reduceAdd,Nat.reduceMul,Nat.reduceLT,Nat.reduceBEq,Nat.reduceLeDiff,Nat.reduceSub]
   refine DSeqQ_n (DTri.dfr pok ?_)
   unfold ir25_dops
   try simp -implicitDefEqProofs (disch:=first|decide|exact of_eq_true (eq_true rfl)|omega|assumption) only [↓vcD,vcE,↓vcG,vcF,evs,evP,evB,intsOf,fillC,Value.cells,pt,Value.oneCell',reduceIte,reduceCtorEq,Nat.reduceEqDiff,Nat.reduceAdd,Nat.reduceMul,Nat.reduceLT,Nat.reduceBEq,Nat.reduceLeDiff,Nat.reduceSub]
   refine ⟨_,_,_,_,rfl,rfl,?_⟩
   refine ITri.seq ?_
   refine ITri.reg pok ?_; simp -implicitDefEqProofs (disch:=first|decide|exact of_eq_true (eq_true rfl)|omega|assumption) only [↓vcD,vcE,↓vcG,vcF,evs,evP,evB,intsOf,fillC,Value.cells,pt,Value.oneCell',reduceIte,reduceCtorEq,Nat.reduceEqDiff,Nat.reduceAdd,Nat.reduceMul,Nat.reduceLT,Nat.reduceBEq,Nat.reduceLeDiff,Nat.reduceSub]
   refine ⟨_,_,newReader_ok k (by omega) hk,?_⟩
   try simp -implicitDefEqProofs (disch:=first|decide|exact of_eq_true (eq_true rfl)|omega|assumption) only [↓vcD,vcE,↓vcG,vcF,evs,evP,evB,intsOf,fillC,Value.cells,pt,Value.oneCell',reduceIte,reduceCtorEq,Nat.reduceEqDiff,Nat.reduceAdd,Nat.reduceMul,Nat.reduceLT,Nat.reduceBEq,Nat.reduceLeDiff,Nat.reduceSub]
   refine ITri.seq ?_
   refine ITri.reg pok ?_; simp -implicitDefEqProofs (disch:=first|decide|exact of_eq_true (eq_true rfl)|omega|assumption) only [↓vcD,vcE,↓vcG,vcF,evs,evP,evB,intsOf,fillC,Value.cells,pt,Value.oneCell',reduceIte,reduceCtorEq,Nat.reduceEqDiff,Nat.reduceAdd,Nat.reduceMul,Nat.reduceLT,Nat.reduceBEq,Nat.reduceLeDiff,Nat.reduceSub]
   refine ⟨_,_,hfr,?_⟩
   try simp -implicitDefEqProofs (disch:=first|decide|exact of_eq_true (eq_true rfl)|omega|assumption) only [↓vcD,vcE,↓vcG,vcF,evs,evP,evB,intsOf,fillC,Value.cells,pt,Value.oneCell',reduceIte,reduceCtorEq,Nat.reduceEqDiff,Nat.reduceAdd,Nat.reduceMul,Nat.reduceLT,Nat.reduceBEq,Nat.reduceLeDiff,Nat.reduceSub]
   refine ITri.seq ?_
   refine ITri.drawF [5] pok ?_; simp -implicitDefEqProofs (disch:=first|decide|exact of_eq_true (eq_true rfl)|omega|assumption) only [  ↓vcD,vcE,↓vcG,vcF,evs,evP,evB,intsOf,fillC,Value.cells,pt,Value.oneCell',reduceIte,reduceCtorEq,Nat.reduceEqDiff,Nat.reduceAdd,Nat.reduceMul,Nat.reduceLT,Nat.reduceBEq,Nat.reduceLeDiff,Nat.reduceSub]
   refine ⟨_,_,cloneB_s rfl hby hsl hm (by omega),?_⟩
   try simp -implicitDefEqProofs (disch:=first|decide|exact of_eq_true (eq_true rfl)|omega|assumption) only [↓vcD,vcE,↓vcG,vcF,evs,evP,evB,intsOf,fillC,Value.cells,pt,Value.oneCell',reduceIte,reduceCtorEq,Nat.reduceEqDiff,Nat.reduceAdd,Nat.reduceMul,Nat.reduceLT,Nat.reduceBEq,Nat.reduceLeDiff,Nat.reduceSub]
   refine ITri.ret ?_
   refine ⟨by trivial,(fun _ h=>by cases h),?_⟩
   refine Th.mono th65_n ?_
   rintro _ rfl
   exact ⟨[.agg #[.int .i64 kd,sO 7 m],.int .i64 nx,.int .i64 0],resF_agg 2 rfl (by kernel_rfl) (by simp -implicitDefEqProofs (disch:=first|decide|exact of_eq_true (eq_true rfl)|omega|assumption) only [↓vcD,vcE,↓vcG,vcF,evs,evP,evB,intsOf,fillC,Value.cells,pt,Value.oneCell',reduceIte,reduceCtorEq,Nat.reduceEqDiff,Nat.reduceAdd,Nat.reduceMul,Nat.reduceLT,Nat.reduceBEq,Nat.reduceLeDiff,Nat.reduceSub]) (resF_cell rfl okc_int (by simp -implicitDefEqProofs (disch:=first|decide|exact of_eq_true (eq_true rfl)|omega|assumption) only [↓vcD,vcE,↓vcG,vcF,evs,evP,evB,intsOf,fillC,Value.cells,pt,Value.oneCell',reduceIte,reduceCtorEq,Nat.reduceEqDiff,Nat.reduceAdd,Nat.reduceMul,Nat.reduceLT,Nat.reduceBEq,Nat.reduceLeDiff,Nat.reduceSub]) (resF_cell rfl okc_errno (by simp -implicitDefEqProofs (disch:=first|decide|exact of_eq_true (eq_true rfl)|omega|assumption) only [↓vcD,vcE,↓vcG,vcF,evs,evP,evB,intsOf,fillC,Value.cells,pt,Value.oneCell',reduceIte,reduceCtorEq,Nat.reduceEqDiff,Nat.reduceAdd,Nat.reduceMul,Nat.reduceLT,Nat.reduceBEq,Nat.reduceLeDiff,Nat.reduceSub]) resF_nil)),rfl,rfl⟩
theorem get_f {n sz k : Nat} {op : Bool} {xs : List Int} {h : AH} (at_ : Int) (hn : xs.length = n) (hB : isB xs) (hb : n ≤ 1000000) (hs : h.sees 0 = true) (hg : h.get k = some (.cells ⟨rows eB xs, sz, op⟩)) :
    Fc Tryd.prog 25 [sO k n,.int .i64 at_] h (gtV h.next (getR xs at_)) (h.news [.cells ⟨rows eB (getR xs at_).2.1,1,true⟩]) :=
 Fc.lift1o (os:=[((getR xs at_).2.1.length,rows eB (getR xs at_).2.1,1)]) (mk:=fun ss=>ss++[.int .i64 at_]) (mkv:=fun ss=>.tuple ⟨[.agg ⟨[Value.int .i64 (getR xs at_).1]++ss++[]⟩,.int .i64 (getR xs at_).2.2.1,.int .i64 (getR xs at_).2.2.2]⟩) (get_c n at_ xs hn hB hb) (MkL.app rfl) (MkV.tup (MkL.agg1 (MkL.mid rfl rfl) rfl)) (rows_no (f:=eB) _) (fun o h=>by simp at h; subst h; exact rows_no (f:=eB) _) hs hg
end Go.Proofs.YtgjokhodccacoaaDoor
