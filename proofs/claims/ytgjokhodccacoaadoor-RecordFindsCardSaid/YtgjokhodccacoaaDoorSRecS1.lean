import Derived.Test.YtgjokhodccacoaaDoorSRecG5
set_option linter.unusedSimpArgs false
set_option linter.unusedVariables false
namespace Go.Vm
open Go Go.RowKit
theorem end_two {P : Program} {rs : List ResultVar} {l : Fr} {L : List (Option AObj)} {k k2 n m b sz sz2 : Nat} {e : Int} {cs ds : List Value} (hk : b ≤ k) (hk2 : b ≤ k2) (hne : k ≠ k2) (hno : noAddrL cs = true) (hno2 : noAddrL ds = true) (hL : L[k]? = some (some (.cells ⟨cs, sz, true⟩))) (hL2 : L[k2]? = some (some (.cells ⟨ds, sz2, true⟩)))
    (hr:resF P l (Hp b L) rs = some [.slice (some ⟨k,0,none⟩) n openB,.slice (some ⟨k2,0,none⟩) m openB,.int .i64 e]) :
    EndR P rs b [.cells ⟨cs,sz,true⟩,.cells ⟨ds,sz2,true⟩] (.tuple #[.slice (some ⟨b,0,none⟩) n openB,.slice (some ⟨b + 1,0,none⟩) m openB,.int .i64 e]) .ret l [] (Hp b L):=by
 refine ⟨by simp,rfl,_,[k,k2],[],hr,rfl,by simp [hne],by simp [hk,hk2],(fun p hp=>by cases hp),?_,?_,fun i o2 h=>.inr ?_⟩
 ·show Value.tuple #[_,_,_] = .tuple ⟨[mvS .same ⟨(fun k'=>if k' < b then k' else [k,k2].getD (k' - b) 0) b,0,none⟩ n openB,mvS .same ⟨(fun k'=>if k' < b then k' else [k,k2].getD (k' - b) 0) (b + 1),0,none⟩ m openB,_]⟩
  have h1 : ¬ b + 1 < b:=by omega
  have h2:b + 1 - b = 1:=by omega
  simp [mvS,h1,h2]
  rfl
 ·exact ⟨⟨by simp,trivial⟩,⟨by simp,trivial⟩,trivial,trivial⟩
 ·match i,h with
  | 0,h =>
   cases h
   refine ⟨(by intro e; cases e),_,(by show (Hp b L).get k = _; rw [Hp_get,hL]; rfl),?_⟩
   exact ⟨(mvL_noAddr _ _ _ hno).symm,okML_noAddr _ _ _ hno,fun e=>e,fun e=>⟨e,rfl⟩⟩
  | 1,h =>
   cases h
   refine ⟨(by intro e; cases e),_,(by show (Hp b L).get k2 = _; rw [Hp_get,hL2]; rfl),?_⟩
   exact ⟨(mvL_noAddr _ _ _ hno2).symm,okML_noAddr _ _ _ hno2,fun e=>e,fun e=>⟨e,rfl⟩⟩
theorem end_nils {P : Program} {rs : List ResultVar} {l : Fr} {L : List (Option AObj)} {b sz sz2 : Nat} {e : Int} (hr : resF P l (Hp b L) rs = some [.slice none 0 0, .slice none 0 0, .int .i64 e]) :
    EndR P rs b [.cells ⟨[],sz,true⟩,.cells ⟨[],sz2,true⟩] (.tuple #[.slice (some ⟨b,0,none⟩) 0 openB,.slice (some ⟨b + 1,0,none⟩) 0 openB,.int .i64 e]) .ret l [] (Hp b L):=by
 have h1 : ¬ b + 1 < b:=by omega
 have h2:b + 1 - b = 1:=by omega
 refine ⟨by simp,rfl,_,[b,b + 1],[(b,.nil),(b + 1,.nil)],hr,rfl,by simp,by simp,(fun p hp=>by simp at hp; rcases hp with rfl|rfl <;> exact ⟨by simp,trivial⟩),?_,?_,fun i o2 h=>.inl ?_⟩
 ·show Value.tuple #[_,_,_] = .tuple ⟨[mvS (xiL [(b,.nil),(b + 1,.nil)] b) _ 0 openB,mvS (xiL [(b,.nil),(b + 1,.nil)] (b + 1)) _ 0 openB,_]⟩
  simp [mvS,xiL]
  rfl
 ·refine ⟨⟨by show b < b + 2; omega,?_⟩,⟨by show b + 1 < b + 2; omega,?_⟩,trivial,trivial⟩
  ·show okS (xiL [(b,.nil),(b + 1,.nil)] b) 0 openB
   simp [xiL,okS]
  ·show okS (xiL [(b,.nil),(b + 1,.nil)] (b + 1)) 0 openB
   simp [xiL,okS]
 ·match i,h with
  | 0,h =>
   cases h
   exact ⟨by simp [xiL],rfl⟩
  | 1,h =>
   cases h
   exact ⟨by simp [xiL],rfl⟩
end Go.Vm
namespace Go.Proofs.YtgjokhodccacoaaDoor
open Go.RowKit Go.Vm
set_option maxRecDepth 100000
abbrev eF3 (x:Int×Int×Int):List Value:=[.int .i64 x.1,.int .i64 x.2.1,.int .i64 x.2.2]
abbrev eR2 (x:Int×Int):List Value:=[.int .i64 x.1,.int .i64 x.2]
instance flF3:FlatE eF3 3:=⟨fun _=>rfl,fun _=>rfl,fun _=>rfl⟩
instance flR2:FlatE eR2 2:=⟨fun _=>rfl,fun _=>rfl,fun _=>rfl⟩
theorem getR_ok {xs : List Int} {k : Nat} (hl : xs.length ≤ 30000) (hk : k ≤ xs.length) (he : (getR xs k).2.2.2 = 0) :
    ∃ nx:Nat,(getR xs k).2.2.1 = nx∧k + 4≤nx∧nx≤xs.length∧1≤(getR xs k).1∧(getR xs k).1≤250:=by
 have e0:getR xs k = match frF xs k with
  | .ok kd a m nx=>(kd,sub xs a m,(nx:Int),0)
  | .err e _=>(0,[],0,e):=by
  unfold getR
  rw [if_neg (by omega),if_neg (by omega),Int.toNat_natCast]
  rfl
 rw [e0] at he ⊢
 cases hr:frF xs k with
 | ok kd a m nx =>
  obtain ⟨b1,b2,b3,b4,b5,b6,b7⟩:=frF_ok hr
  refine ⟨nx,rfl,by omega,b3,b5,b6⟩
 | err e nx =>
  rw [hr] at he
  exact absurd he (frF_e hr)
structure Sc where
 at_:Nat
 since:Nat
 found:List (Int×Int×Int)
 lost:List (Int×Int)
def lz (l:List (Int×Int)) (s a:Nat):List (Int×Int):=if s < a then l++[((s:Int),(a:Int) - 1)] else l
def scS (xs:List Int) (s:Sc):Sc :=
 if (getR xs s.at_).2.2.2 = 0 then ⟨(getR xs s.at_).2.2.1.toNat,(getR xs s.at_).2.2.1.toNat,s.found++[((s.at_:Int),(getR xs s.at_).2.2.1 - s.at_,(getR xs s.at_).1)],lz s.lost s.since s.at_⟩
 else ⟨s.at_ + 1,s.since,s.found,s.lost⟩
def scFin (xs:List Int) (s:Sc):Sc:=if h:s.at_ < xs.length∧s.at_ < (scS xs s).at_ then scFin xs (scS xs s) else s
termination_by xs.length - s.at_
decreasing_by omega
def sc0:Sc:=⟨0,0,[],[]⟩
def ScJ (xs:List Int) (s:Sc):Prop:=s.since≤s.at_∧s.at_≤xs.length∧(∀ r∈s.lost,r.2 + 1 < (s.since:Int))∧scFin xs s = scFin xs sc0∧s.found.length≤s.at_∧s.lost.length≤s.since
theorem sc_step {xs:List Int} {s:Sc} (hl:xs.length≤30000) (J:ScJ xs s) (h:s.at_ < xs.length):ScJ xs (scS xs s)∧s.at_ < (scS xs s).at_:=by
 obtain ⟨j1,j2,j3,j4,j5,j6⟩:=J
 have key:s.at_ < (scS xs s).at_:=by
  unfold scS
  split
  ·rename_i he
   obtain ⟨nx,e,b1,_⟩:=getR_ok hl j2 he
   show _ < Int.toNat _
   omega
  ·show _ < _ + 1
   omega
 refine ⟨?_,key⟩
 have hf:scFin xs (scS xs s) = scFin xs sc0:=by
  rw [scFin,dif_pos ⟨h,key⟩] at j4
  exact j4
 refine ⟨?_,?_,?_,hf,?_,?_⟩
 ·unfold scS
  split
  ·exact Nat.le_refl _
  ·show s.since≤s.at_ + 1
   omega
 ·unfold scS
  split
  ·rename_i he
   obtain ⟨nx,e,b1,b2,_⟩:=getR_ok hl j2 he
   show Int.toNat _≤_
   omega
  ·show _ + 1≤_
   omega
 ·unfold scS
  split
  ·rename_i he
   obtain ⟨nx,e,b1,b2,_⟩:=getR_ok hl j2 he
   intro r hr
   show r.2 + 1 < ((Int.toNat _:Nat):Int)
   rw [e,Int.toNat_natCast]
   simp only [lz] at hr
   split at hr
   ·rcases List.mem_append.1 hr with hr|hr
    ·have:=j3 r hr; omega
    ·simp only [List.mem_cons,List.not_mem_nil,or_false] at hr
     subst hr
     show (s.at_:Int) - 1 + 1 < _
     omega
   ·have:=j3 r hr; omega
  ·exact j3
 ·unfold scS
  split
  ·rename_i he
   obtain ⟨nx,e,b1,b2,_⟩:=getR_ok hl j2 he
   show (s.found++[_]).length≤Int.toNat _
   rw [List.length_append]
   simp only [List.length_cons,List.length_nil]
   omega
  ·show s.found.length≤s.at_ + 1
   omega
 ·unfold scS
  split
  ·rename_i he
   obtain ⟨nx,e,b1,b2,_⟩:=getR_ok hl j2 he
   show (lz _ _ _).length≤Int.toNat _
   unfold lz
   split
   ·rw [List.length_append]
    simp only [List.length_cons,List.length_nil]
    omega
   ·omega
  ·exact j6
theorem sc_end {xs:List Int} {s:Sc} (J:ScJ xs s) (h : ¬ s.at_ < xs.length):s = scFin xs sc0:=by
 obtain ⟨j1,j2,j3,j4,j5,j6⟩:=J
 rw [scFin,dif_neg (by omega)] at j4
 exact j4
theorem sc_begin {xs:List Int}:ScJ xs sc0:=⟨Nat.le_refl _,Nat.zero_le _,(fun r h=>by cases h),rfl,Nat.le_refl _,Nat.le_refl _⟩
def scF (xs:List Int):List (Int×Int×Int):=if 30000 < xs.length then [] else (scFin xs sc0).found
def scL (xs:List Int):List (Int×Int):=if 30000 < xs.length then [] else lz (scFin xs sc0).lost (scFin xs sc0).since (scFin xs sc0).at_
def scE (xs:List Int):Int:=if 30000 < xs.length then 5 else 0
abbrev rF3 (l:List (Int×Int×Int)):Option AObj:=some (.cells ⟨rows eF3 l,3,true⟩)
abbrev rR2 (l:List (Int×Int)):Option AObj:=some (.cells ⟨rows eR2 l,2,true⟩)
abbrev slc (s:Value):Option AObj:=some (.cells ⟨[s],1,false⟩)
def ir70_r0:IC:=.reg [⟨some 4,none,false,.ldc (.t 1)⟩,
 ⟨some 5,none,false,.mv (.t 0)⟩,
 ⟨some 6,none,false,.cmp .lss (.t 4) (.t 5)⟩] (some [0,1,2,6])
def ir70_r1:IC:=.reg [⟨some 7,none,false,.ldc (.t 2)⟩,
 ⟨some 8,none,false,.ldc (.t 1)⟩,
 ⟨some 9,none,false,.mv (.t 0)⟩,
 ⟨some 10,none,false,.ar .sub (.t 9) (.k (.int .i64 1))⟩,
 ⟨some 11,none,false,.bld [(.int .i64 0),(.int .i64 0)] [(0,1,(.t 8)),(1,1,(.t 10))]⟩,
 ⟨some 12,none,false,.bsl 2 1 [(.int .i64 0),(.int .i64 0)] [(0,(.t 11))]⟩,
 ⟨some 13,none,false,.app 2 16 (.t 7) (.t 12)⟩,
 ⟨none,none,false,.st 1 (.t 2) (.t 13)⟩] (some [])
def ir70_1:IC:=.cond (.t 6) ir70_r1 .skip
def ir70_2:IC:=.seq ir70_r0 ir70_1
def ir70:IC:=ir70_2
theorem fn70:FnIs Tryd.prog 70 ir70 14 []:=⟨Tryd.f70,Tryd.f70.body.getD .skip,Tryd.func70,by kernel_rfl,by kernel_rfl,by kernel_rfl,by kernel_rfl⟩
def ir27_r0:IC:=.reg [⟨some 2,none,false,.mv (.k (.slice none 0 0))⟩,
 ⟨some 3,none,false,.alloc [(.slice none 0 0)]⟩,
 ⟨some 4,none,false,.mv (.k (.int .i64 0))⟩] (some [0,2,3])
def ir27_r1:IC:=.reg [⟨some 11,none,false,.mv (.t 0)⟩,
 ⟨some 12,none,false,.len (.t 11)⟩,
 ⟨some 13,none,false,.cmp .gtr (.t 12) (.k (.int .i64 30000))⟩] (some [0,2,3,13])
def ir27_r2:IC:=.reg [⟨some 2,none,false,.mv (.k (.slice none 0 0))⟩,
 ⟨none,none,false,.st 1 (.t 3) (.k (.slice none 0 0))⟩,
 ⟨some 4,none,false,.mv (.k (.int .i64 5))⟩] (some [2,3,4])
def ir27_1:IC:=.seq ir27_r2 .ret
def ir27_2:IC:=.cond (.t 13) ir27_1 .skip
def ir27_3:IC:=.seq ir27_r1 ir27_2
def ir27_r3:IC:=.reg [⟨some 5,none,false,.alloc [(.int .i64 0)]⟩,
 ⟨none,none,false,.st 1 (.t 5) (.k (.int .i64 0))⟩] (some [0,2,3,5])
def ir27_r4:IC:=.reg [⟨some 14,none,false,.mkf 70 [] [(.t 5),(.t 3)]⟩,
 ⟨some 6,none,false,.mv (.t 14)⟩] (some [0,2,3,5,6])
def ir27_r5:IC:=.reg [⟨some 7,none,false,.mv (.k (.int .i64 0))⟩] (some [0,2,3,5,6,7])
def ir27_r6:IC:=.reg [⟨some 15,none,false,.mv (.t 7)⟩,
 ⟨some 16,none,false,.mv (.t 0)⟩,
 ⟨some 17,none,false,.len (.t 16)⟩,
 ⟨some 18,none,false,.cmp .lss (.t 15) (.t 17)⟩] (some [0,2,3,5,6,7,18])
def ir27_4:IC:=.cond (.t 18) .skip (.exit 0)
def ir27_5:IC:=.seq ir27_r6 ir27_4
def ir27_r7:IC:=.reg [⟨some 20,none,false,.mv (.t 0)⟩,
 ⟨some 21,none,false,.mv (.t 7)⟩,
 ⟨some 22,none,false,.call (.f 25) [(.t 20),(.t 21)]⟩,
 ⟨some 19,none,false,.mv (.t 22)⟩,
 ⟨some 23,none,false,.ext (.t 19) 0⟩,
 ⟨some 24,none,false,.ext (.t 19) 1⟩,
 ⟨some 25,none,false,.ext (.t 19) 2⟩,
 ⟨some 8,none,false,.alloc [(.int .i64 0),(.slice none 0 0)]⟩,
 ⟨none,none,false,.st 2 (.t 8) (.t 23)⟩,
 ⟨some 9,none,false,.mv (.t 24)⟩,
 ⟨some 10,none,false,.mv (.t 25)⟩] (some [0,2,3,5,6,7,8,9,10])
def ir27_r8:IC:=.reg [⟨some 26,none,false,.mv (.t 10)⟩,
 ⟨some 27,none,false,.cmp .neq (.t 26) (.k (.int .i64 0))⟩] (some [0,2,3,5,6,7,8,9,27])
def ir27_r9:IC:=.reg [⟨some 28,none,false,.mv (.t 7)⟩,
 ⟨some 29,none,false,.ar .add (.t 28) (.k (.int .i64 1))⟩,
 ⟨some 7,none,false,.mv (.t 29)⟩] (some [0,2,3,5,6,7])
def ir27_6:IC:=.seq ir27_r9 (.exit 1)
def ir27_7:IC:=.cond (.t 27) ir27_6 .skip
def ir27_8:IC:=.seq ir27_r8 ir27_7
def ir27_r10:IC:=.reg [⟨some 30,none,false,.mv (.t 6)⟩,
 ⟨some 31,none,false,.mv (.t 7)⟩,
 ⟨some 32,none,false,.call (.t 30) [(.t 31)]⟩] (some [0,2,3,5,6,7,8,9])
def ir27_r11:IC:=.reg [⟨some 33,none,false,.mv (.t 2)⟩,
 ⟨some 34,none,false,.mv (.t 7)⟩,
 ⟨some 35,none,false,.mv (.t 9)⟩,
 ⟨some 36,none,false,.mv (.t 7)⟩,
 ⟨some 37,none,false,.ar .sub (.t 35) (.t 36)⟩,
 ⟨some 38,none,false,.fad 0 (.t 8)⟩,
 ⟨some 39,none,false,.ldc (.t 38)⟩,
 ⟨some 40,none,false,.bld [(.int .i64 0),(.int .i64 0),(.int .i64 0)] [(0,1,(.t 34)),(1,1,(.t 37)),(2,1,(.t 39))]⟩,
 ⟨some 41,none,false,.bsl 3 1 [(.int .i64 0),(.int .i64 0),(.int .i64 0)] [(0,(.t 40))]⟩,
 ⟨some 42,none,false,.app 3 24 (.t 33) (.t 41)⟩,
 ⟨some 2,none,false,.mv (.t 42)⟩] (some [0,2,3,5,6,9])
def ir27_r12:IC:=.reg [⟨some 43,none,false,.mv (.t 9)⟩,
 ⟨some 44,none,false,.mv (.t 9)⟩,
 ⟨some 7,none,false,.mv (.t 43)⟩,
 ⟨none,none,false,.st 1 (.t 5) (.t 44)⟩] (some [0,2,3,5,6,7])
def ir27_9:IC:=.seq ir27_r11 ir27_r12
def ir27_10:IC:=.seq ir27_r10 ir27_9
def ir27_11:IC:=.seq ir27_8 ir27_10
def ir27_12:IC:=.seq ir27_r7 ir27_11
def ir27_13:IC:=.block 1 ir27_12
def ir27_14:IC:=.seq ir27_5 ir27_13
def ir27_15:IC:=.loop ir27_14
def ir27_16:IC:=.block 0 ir27_15
def ir27_17:IC:=.seq ir27_r5 ir27_16
def ir27_r13:IC:=.reg [⟨some 45,none,false,.mv (.t 6)⟩,
 ⟨some 46,none,false,.mv (.t 0)⟩,
 ⟨some 47,none,false,.len (.t 46)⟩,
 ⟨some 48,none,false,.call (.t 45) [(.t 47)]⟩] (some [2,3])
def ir27_r14:IC:=.draw [(⟨some 49,none,false,.mv (.t 2)⟩,false,0,0),
 (⟨some 50,none,false,.ldc (.t 3)⟩,true,0,0),
 (⟨some 2,none,false,.mv (.t 49)⟩,false,1,0),
 (⟨none,none,false,.st 1 (.t 3) (.t 50)⟩,true,7,0),
 (⟨some 4,none,false,.mv (.k (.int .i64 0))⟩,false,15,0)] (some [2,3,4])
def ir27_18:IC:=.seq ir27_r14 .ret
def ir27_19:IC:=.seq ir27_r13 ir27_18
def ir27_20:IC:=.seq ir27_17 ir27_19
def ir27_21:IC:=.seq ir27_r4 ir27_20
def ir27_22:IC:=.seq ir27_r3 ir27_21
def ir27_23:IC:=.seq ir27_3 ir27_22
def ir27_24:IC:=.seq ir27_r0 ir27_23
def ir27:IC:=ir27_24
theorem fn27:FnIs Tryd.prog 27 ir27 51 [.tmp 2,.cell 3 35,.tmp 4]:=⟨Tryd.f27,Tryd.f27.body.getD .skip,Tryd.func27,by kernel_rfl,by kernel_rfl,by kernel_rfl,by kernel_rfl⟩
section
variable {src rF:Option AObj} {T:List (Option AObj)} {l:List (Int×Int)} {s a:Nat}
theorem lose_y (h:s < a) (hb:a≤30000) (hl:l.length≤30000):Fc Tryd.prog 70 [.int .i64 a,pt 3,pt 2] (Hp 2 (none :: src :: slc (sO 5 l.length) :: bx s :: rF :: rR2 l :: T)) (.tuple #[]) (Hp 2 (none :: src :: slc (sO (T.length + 7) (lz l s a).length) :: bx s :: rF :: none :: (T++[some (.cells ⟨[.int .i64 s,.int .i64 (a - 1)],2,false⟩),rR2 (lz l s a)]))):=by
 have h' : (s:Int) < a:=by omega
 have e1:lz l s a = l++[((s:Int),(a:Int) - 1)]:=if_pos h
 have e2:rows eR2 l++[Value.int .i64 s,.int .i64 ((a:Int) - 1)] = rows eR2 (lz l s a):=by rw [e1,rows_append,rows_one]
 have e3:(lz l s a).length = l.length + 1:=by rw [e1,List.length_append]; rfl
 have e4:(rows eR2 l).length = l.length * 2:=rows_len _
 refine Fc.introX fn70 (by simp) (fun _=>grow_hq (by simp) (by rfl)) ?_; simp only [argF]
 refine ITri.seq ?_
 refine ITri.reg pok ?_; simp -implicitDefEqProofs (disch:=first|decide|exact of_eq_true (eq_true rfl)|omega|assumption) only [h',decide_true, ↓vcD,vcE,↓vcG,vcF,evs,evP,evB,intsOf,fillC,Value.cells,pt,Value.oneCell',reduceIte,reduceCtorEq,Nat.reduceEqDiff,Nat.reduceAdd,Nat.reduceMul,Nat.reduceLT,Nat.reduceBEq,Nat.reduceLeDiff,Nat.reduceSub]
 refine ITri.cond (v:=true) rfl (fun _=>?_) (fun h=>by cases h)
 refine ITri.reg pok ?_; simp -implicitDefEqProofs (disch:=first|decide|exact of_eq_true (eq_true rfl)|omega|assumption) only [e4,e2,apd_get,apd_get0,List.length_append,List.append_assoc,Nat.add_assoc, ↓vcD,vcE,↓vcG,vcF,evs,evP,evB,intsOf,fillC,Value.cells,pt,Value.oneCell',reduceIte,reduceCtorEq,Nat.reduceEqDiff,Nat.reduceAdd,Nat.reduceMul,Nat.reduceLT,Nat.reduceBEq,Nat.reduceLeDiff,Nat.reduceSub]
 exact EndX.mk (by simp) resF_nil rfl (by rw [e3])
theorem lose_n (h : ¬ s < a):Fc Tryd.prog 70 [.int .i64 a,pt 3,pt 2] (Hp 2 (none :: src :: slc (sO 5 l.length) :: bx s :: rF :: rR2 l :: T)) (.tuple #[]) (Hp 2 (none :: src :: slc (sO 5 (lz l s a).length) :: bx s :: rF :: rR2 (lz l s a) :: T)):=by
 have h' : ¬ (s:Int) < a:=by omega
 have e1:lz l s a = l:=if_neg h
 rw [e1]
 refine Fc.introX fn70 (by simp) (fun _=>Grow.refl _) ?_; simp only [argF]
 refine ITri.seq ?_
 refine ITri.reg pok ?_; simp -implicitDefEqProofs (disch:=first|decide|exact of_eq_true (eq_true rfl)|omega|assumption) only [h',decide_false, ↓vcD,vcE,↓vcG,vcF,evs,evP,evB,intsOf,fillC,Value.cells,pt,Value.oneCell',reduceIte,reduceCtorEq,Nat.reduceEqDiff,Nat.reduceAdd,Nat.reduceMul,Nat.reduceLT,Nat.reduceBEq,Nat.reduceLeDiff,Nat.reduceSub]
 refine ITri.cond (v:=false) rfl (fun h=>by cases h) (fun _=>?_)
 refine ITri.skip ?_
 exact EndX.mk (by simp) resF_nil rfl rfl
end
theorem scan_c (n : Nat) (xs : List Int) (hn : xs.length = n) (hB : isB xs) (hb : n ≤ 1000000) :
    Fc Tryd.prog 27 [sO 1 n] (Hp 2 [none,srB xs]) (.tuple #[sO 2 (scF xs).length,sO 3 (scL xs).length,.int .i64 (scE xs)]) ((Hp 2 [none,srB xs]).news [.cells ⟨rows eF3 (scF xs),3,true⟩,.cells ⟨rows eR2 (scL xs),2,true⟩]):=by
 refine Fc.introR fn27 (by simp) rfl rfl ?_; simp only [argF]
 refine ITri.seq ?_
 refine ITri.reg pok ?_; simp -implicitDefEqProofs (disch:=first|decide|exact of_eq_true (eq_true rfl)|omega|assumption) only [↓vcD,vcE,↓vcG,vcF,evs,evP,evB,intsOf,fillC,Value.cells,pt,Value.oneCell',reduceIte,reduceCtorEq,Nat.reduceEqDiff,Nat.reduceAdd,Nat.reduceMul,Nat.reduceLT,Nat.reduceBEq,Nat.reduceLeDiff,Nat.reduceSub]
 refine ITri.seq ?_
 refine ITri.seq ?_
 refine ITri.reg pok ?_; simp -implicitDefEqProofs (disch:=first|decide|exact of_eq_true (eq_true rfl)|omega|assumption) only [↓vcD,vcE,↓vcG,vcF,evs,evP,evB,intsOf,fillC,Value.cells,pt,Value.oneCell',reduceIte,reduceCtorEq,Nat.reduceEqDiff,Nat.reduceAdd,Nat.reduceMul,Nat.reduceLT,Nat.reduceBEq,Nat.reduceLeDiff,Nat.reduceSub]
 refine ITri.condD (by rfl) (fun h1=>?_) (fun h1=>?_)
 ·have e1:scF xs = []:=if_pos (by omega)
  have e2:scL xs = []:=if_pos (by omega)
  have e3:scE xs = 5:=if_pos (by omega)
  rw [e1,e2,e3]
  refine ITri.seq ?_
  refine ITri.reg pok ?_; simp -implicitDefEqProofs (disch:=first|decide|exact of_eq_true (eq_true rfl)|omega|assumption) only [↓vcD,vcE,↓vcG,vcF,evs,evP,evB,intsOf,fillC,Value.cells,pt,Value.oneCell',reduceIte,reduceCtorEq,Nat.reduceEqDiff,Nat.reduceAdd,Nat.reduceMul,Nat.reduceLT,Nat.reduceBEq,Nat.reduceLeDiff,Nat.reduceSub]
  refine ITri.ret ?_
  exact end_nils (resF_tmp rfl (resF_cell rfl (by kernel_rfl) (by simp -implicitDefEqProofs (disch:=first|decide|exact of_eq_true (eq_true rfl)|omega|assumption) only [↓vcD,vcE,↓vcG,vcF,evs,evP,evB,intsOf,fillC,Value.cells,pt,Value.oneCell',reduceIte,reduceCtorEq,Nat.reduceEqDiff,Nat.reduceAdd,Nat.reduceMul,Nat.reduceLT,Nat.reduceBEq,Nat.reduceLeDiff,Nat.reduceSub]) (resF_tmp rfl resF_nil)))
 have e3:scE xs = 0:=if_neg (by omega)
 have hl:xs.length≤30000:=by omega
 refine ITri.skip ?_; simp only [SeqQ_normal,BlkQ_normal]
 refine ITri.seq ?_
 refine ITri.reg pok ?_; simp -implicitDefEqProofs (disch:=first|decide|exact of_eq_true (eq_true rfl)|omega|assumption) only [↓vcD,vcE,↓vcG,vcF,evs,evP,evB,intsOf,fillC,Value.cells,pt,Value.oneCell',reduceIte,reduceCtorEq,Nat.reduceEqDiff,Nat.reduceAdd,Nat.reduceMul,Nat.reduceLT,Nat.reduceBEq,Nat.reduceLeDiff,Nat.reduceSub]
 refine ITri.seq ?_
 refine ITri.reg pok ?_; simp -implicitDefEqProofs (disch:=first|decide|exact of_eq_true (eq_true rfl)|omega|assumption) only [↓vcD,vcE,↓vcG,vcF,evs,evP,evB,intsOf,fillC,Value.cells,pt,Value.oneCell',reduceIte,reduceCtorEq,Nat.reduceEqDiff,Nat.reduceAdd,Nat.reduceMul,Nat.reduceLT,Nat.reduceBEq,Nat.reduceLeDiff,Nat.reduceSub]
 refine ITri.seq ?_
 refine ITri.seq ?_
 refine ITri.reg pok ?_; simp -implicitDefEqProofs (disch:=first|decide|exact of_eq_true (eq_true rfl)|omega|assumption) only [↓vcD,vcE,↓vcG,vcF,evs,evP,evB,intsOf,fillC,Value.cells,pt,Value.oneCell',reduceIte,reduceCtorEq,Nat.reduceEqDiff,Nat.reduceAdd,Nat.reduceMul,Nat.reduceLT,Nat.reduceBEq,Nat.reduceLeDiff,Nat.reduceSub]
 refine ITri.block ?_
 have z0:rows eF3 sc0.found = []:=rfl
 have z1:rows eR2 sc0.lost = []:=rfl
 have z2:sc0.found.length = 0:=rfl
 have z3:sc0.lost.length = 0:=rfl
 have z4:sc0.at_ = 0:=rfl
 have z5:sc0.since = 0:=rfl
 refine ITri.loop (fun s:Sc=>[(0,sO 1 n),(2,sO 4 s.found.length),(3,pt 2),(5,pt 3),(6,.func (.func 70) #[] #[pt 3,pt 2]),(7,.int .i64 s.at_)]) (fun _=>[]) (fun s=>Hp 2 [none,srB xs,slc (sO 5 s.lost.length),bx s.since,rF3 s.found,rR2 s.lost]) (ScJ xs) (fun s=>n - s.at_) sc0 sc_begin (Wk.gc [0,1,2,3,4,5] [(4,.nil),(5,.nil)] (of_decide_eq_true rfl) (of_decide_eq_true rfl) rfl rfl (of_decide_eq_true rfl) rfl rfl (by repeat (first|exact xiOK_nil|refine xiOK_cons (by first|trivial|exact roomOK _ (by decide)) ?_)) rfl (by simp -implicitDefEqProofs (disch:=first|decide|exact of_eq_true (eq_true rfl)|omega|assumption) only [z0,z1,z2,z3,z4,z5,z00,mvF,okFB,objOK,sgL,xiL,objAt,nilO,OM,mvL,mv,mvS,okS,okP,mvL_rows,okML,okM,okML_rows,List.getElem?_cons_zero,Option.getD_some,implies_true,imp_self,ne_eq,and_self,true_or,or_true,Nat.zero_mul,Nat.sub_self,openB_self,↓vcD,vcE,↓vcG,vcF,evs,evP,evB,intsOf,fillC,Value.cells,pt,Value.oneCell',reduceIte,reduceCtorEq,Nat.reduceEqDiff,Nat.reduceAdd,Nat.reduceMul,Nat.reduceLT,Nat.reduceBEq,Nat.reduceLeDiff,Nat.reduceSub]) (by simp -implicitDefEqProofs (disch:=first|decide|exact of_eq_true (eq_true rfl)|omega|assumption) only [z0,z1,z2,z3,z4,z5,z00,mvF,okFB,valOK,sgL,xiL,mv,mvA,mvL,mvS,okS,okP,okM,okMA,okML,Option.getD_some,implies_true,and_self,true_or,or_true,Int.natCast_add,Int.cast_ofNat_Int,Nat.zero_mul,Nat.sub_self,openB_self,↓vcD,vcE,↓vcG,vcF,evs,evP,evB,intsOf,fillC,Value.cells,pt,Value.oneCell',reduceIte,reduceCtorEq,Nat.reduceEqDiff,Nat.reduceAdd,Nat.reduceMul,Nat.reduceLT,Nat.reduceBEq,Nat.reduceLeDiff,Nat.reduceSub]) (fun _ h=>by cases h) ⟨rfl,fun _ h=>by cases h⟩) fun s J=>?_
 refine ITri.seq ?_
 refine ITri.seq ?_
 refine ITri.reg pok ?_; simp -implicitDefEqProofs (disch:=first|decide|exact of_eq_true (eq_true rfl)|omega|assumption) only [↓vcD,vcE,↓vcG,vcF,evs,evP,evB,intsOf,fillC,Value.cells,pt,Value.oneCell',reduceIte,reduceCtorEq,Nat.reduceEqDiff,Nat.reduceAdd,Nat.reduceMul,Nat.reduceLT,Nat.reduceBEq,Nat.reduceLeDiff,Nat.reduceSub]
 refine ITri.condD (by rfl) (fun h3=>?_) (fun h3=>?_)
 ·have J2:=sc_step hl J (by omega)
  obtain ⟨j1,j2,j3,j4,j5,j6⟩:=id J
  have hgk:=getR_ok hl j2
  refine ITri.skip ?_; simp only [SeqQ_normal,BlkQ_normal]
  refine ITri.cut (fun s:Sc=>[(0,sO 1 n),(2,sO 4 s.found.length),(3,pt 2),(5,pt 3),(6,.func (.func 70) #[] #[pt 3,pt 2]),(7,.int .i64 s.at_)]) (fun _=>[]) (fun s=>Hp 2 [none,srB xs,slc (sO 5 s.lost.length),bx s.since,rF3 s.found,rR2 s.lost]) (fun s'=>ScJ xs s'∧s.at_ < s'.at_) ?_ (fun i hi=>?_)
  ·refine ITri.block ?_
   refine ITri.seq ?_
   refine ITri.reg pok ?_; simp -implicitDefEqProofs (disch:=first|decide|exact of_eq_true (eq_true rfl)|omega|assumption) only [↓vcD,vcE,↓vcG,vcF,evs,evP,evB,intsOf,fillC,Value.cells,pt,Value.oneCell',reduceIte,reduceCtorEq,Nat.reduceEqDiff,Nat.reduceAdd,Nat.reduceMul,Nat.reduceLT,Nat.reduceBEq,Nat.reduceLeDiff,Nat.reduceSub]
   refine ⟨_,_,get_f _ hn hB hb (sees0 rfl (of_decide_eq_true rfl)) (get_hq rfl rfl),?_⟩
   unfold scS at J2
   generalize getR xs s.at_ = g at *
   simp -implicitDefEqProofs (disch:=first|decide|exact of_eq_true (eq_true rfl)|omega|assumption) only [news_c,news_n, ↓vcD,vcE,↓vcG,vcF,evs,evP,evB,intsOf,fillC,Value.cells,pt,Value.oneCell',reduceIte,reduceCtorEq,Nat.reduceEqDiff,Nat.reduceAdd,Nat.reduceMul,Nat.reduceLT,Nat.reduceBEq,Nat.reduceLeDiff,Nat.reduceSub]
   refine ITri.seq ?_
   refine ITri.seq ?_
   by_cases he:g.2.2.2 = 0
   ·rw [if_pos he] at J2
    obtain ⟨nx,en,b1,b2,b3,b4⟩:=hgk he
    rw [en,Int.toNat_natCast] at J2
    refine ITri.reg pok ?_; simp -implicitDefEqProofs (disch:=first|decide|exact of_eq_true (eq_true rfl)|omega|assumption) only [he,decide_true,Bool.not_true, ↓vcD,vcE,↓vcG,vcF,evs,evP,evB,intsOf,fillC,Value.cells,pt,Value.oneCell',reduceIte,reduceCtorEq,Nat.reduceEqDiff,Nat.reduceAdd,Nat.reduceMul,Nat.reduceLT,Nat.reduceBEq,Nat.reduceLeDiff,Nat.reduceSub]
    refine ITri.cond (v:=false) rfl (fun h=>by cases h) (fun _=>?_); refine ITri.skip ?_; simp only [SeqQ_normal,BlkQ_normal]
    have hsz:(rows eF3 s.found).length = s.found.length * 3:=rows_len _
    have hs1:rows eF3 s.found++[Value.int .i64 s.at_,.int .i64 (nx - s.at_),.int .i64 g.1] = rows eF3 (s.found++[((s.at_:Int),(nx:Int) - s.at_,g.1)]):=by rw [rows_append,rows_one]
    have hs2:(s.found++[((s.at_:Int),(nx:Int) - s.at_,g.1)]).length = s.found.length + 1:=by rw [List.length_append]; rfl
    refine ITri.seq ?_
    by_cases hsa:s.since < s.at_
    ·refine ITri.reg pok ?_; simp -implicitDefEqProofs (disch:=first|decide|exact of_eq_true (eq_true rfl)|omega|assumption) only [↓vcD,vcE,↓vcG,vcF,evs,evP,evB,intsOf,fillC,Value.cells,pt,Value.oneCell',reduceIte,reduceCtorEq,Nat.reduceEqDiff,Nat.reduceAdd,Nat.reduceMul,Nat.reduceLT,Nat.reduceBEq,Nat.reduceLeDiff,Nat.reduceSub]
     refine ⟨_,_,lose_y hsa (by omega) (by omega),?_⟩
     simp -implicitDefEqProofs (disch:=first|decide|exact of_eq_true (eq_true rfl)|omega|assumption) only [List.length_cons,List.length_nil,List.cons_append,List.nil_append, ↓vcD,vcE,↓vcG,vcF,evs,evP,evB,intsOf,fillC,Value.cells,pt,Value.oneCell',reduceIte,reduceCtorEq,Nat.reduceEqDiff,Nat.reduceAdd,Nat.reduceMul,Nat.reduceLT,Nat.reduceBEq,Nat.reduceLeDiff,Nat.reduceSub]
     refine ITri.seq ?_
     refine ITri.reg pok ?_; simp -implicitDefEqProofs (disch:=first|decide|exact of_eq_true (eq_true rfl)|omega|assumption) only [hsz,en,hs1, ↓vcD,vcE,↓vcG,vcF,evs,evP,evB,intsOf,fillC,Value.cells,pt,Value.oneCell',reduceIte,reduceCtorEq,Nat.reduceEqDiff,Nat.reduceAdd,Nat.reduceMul,Nat.reduceLT,Nat.reduceBEq,Nat.reduceLeDiff,Nat.reduceSub]
     refine ITri.reg pok ?_; simp -implicitDefEqProofs (disch:=first|decide|exact of_eq_true (eq_true rfl)|omega|assumption) only [↓vcD,vcE,↓vcG,vcF,evs,evP,evB,intsOf,fillC,Value.cells,pt,Value.oneCell',reduceIte,reduceCtorEq,Nat.reduceEqDiff,Nat.reduceAdd,Nat.reduceMul,Nat.reduceLT,Nat.reduceBEq,Nat.reduceLeDiff,Nat.reduceSub]
     refine CutQ.mk ⟨nx,nx,s.found++[((s.at_:Int),(nx:Int) - s.at_,g.1)],lz s.lost s.since s.at_⟩ J2 ?_
     simp only [hs2]
     exact (Wk.gc [0,1,2,3,11,9] [] (of_decide_eq_true rfl) (of_decide_eq_true rfl) rfl rfl (of_decide_eq_true rfl) rfl rfl (by repeat (first|exact xiOK_nil|refine xiOK_cons (by first|trivial|exact roomOK _ (by decide)) ?_)) rfl (by simp -implicitDefEqProofs (disch:=first|decide|exact of_eq_true (eq_true rfl)|omega|assumption) only [mvF,okFB,objOK,sgL,xiL,objAt,nilO,OM,mvL,mv,mvS,okS,okP,mvL_rows,okML,okM,okML_rows,List.getElem?_cons_zero,Option.getD_some,implies_true,imp_self,ne_eq,and_self,true_or,or_true,Nat.zero_mul,Nat.sub_self,openB_self,↓vcD,vcE,↓vcG,vcF,evs,evP,evB,intsOf,fillC,Value.cells,pt,Value.oneCell',reduceIte,reduceCtorEq,Nat.reduceEqDiff,Nat.reduceAdd,Nat.reduceMul,Nat.reduceLT,Nat.reduceBEq,Nat.reduceLeDiff,Nat.reduceSub]) (by simp -implicitDefEqProofs (disch:=first|decide|exact of_eq_true (eq_true rfl)|omega|assumption) only [mvF,okFB,valOK,sgL,xiL,mv,mvA,mvL,mvS,okS,okP,okM,okMA,okML,Option.getD_some,implies_true,and_self,true_or,or_true,Int.natCast_add,Int.cast_ofNat_Int,Nat.zero_mul,Nat.sub_self,openB_self,↓vcD,vcE,↓vcG,vcF,evs,evP,evB,intsOf,fillC,Value.cells,pt,Value.oneCell',reduceIte,reduceCtorEq,Nat.reduceEqDiff,Nat.reduceAdd,Nat.reduceMul,Nat.reduceLT,Nat.reduceBEq,Nat.reduceLeDiff,Nat.reduceSub]) (fun _ h=>by cases h) ⟨rfl,fun _ h=>by cases h⟩)
    ·refine ITri.reg pok ?_; simp -implicitDefEqProofs (disch:=first|decide|exact of_eq_true (eq_true rfl)|omega|assumption) only [↓vcD,vcE,↓vcG,vcF,evs,evP,evB,intsOf,fillC,Value.cells,pt,Value.oneCell',reduceIte,reduceCtorEq,Nat.reduceEqDiff,Nat.reduceAdd,Nat.reduceMul,Nat.reduceLT,Nat.reduceBEq,Nat.reduceLeDiff,Nat.reduceSub]
     refine ⟨_,_,lose_n hsa,?_⟩
     try simp -implicitDefEqProofs (disch:=first|decide|exact of_eq_true (eq_true rfl)|omega|assumption) only [↓vcD,vcE,↓vcG,vcF,evs,evP,evB,intsOf,fillC,Value.cells,pt,Value.oneCell',reduceIte,reduceCtorEq,Nat.reduceEqDiff,Nat.reduceAdd,Nat.reduceMul,Nat.reduceLT,Nat.reduceBEq,Nat.reduceLeDiff,Nat.reduceSub]
     refine ITri.seq ?_
     refine ITri.reg pok ?_; simp -implicitDefEqProofs (disch:=first|decide|exact of_eq_true (eq_true rfl)|omega|assumption) only [hsz,en,hs1, ↓vcD,vcE,↓vcG,vcF,evs,evP,evB,intsOf,fillC,Value.cells,pt,Value.oneCell',reduceIte,reduceCtorEq,Nat.reduceEqDiff,Nat.reduceAdd,Nat.reduceMul,Nat.reduceLT,Nat.reduceBEq,Nat.reduceLeDiff,Nat.reduceSub]
     refine ITri.reg pok ?_; simp -implicitDefEqProofs (disch:=first|decide|exact of_eq_true (eq_true rfl)|omega|assumption) only [↓vcD,vcE,↓vcG,vcF,evs,evP,evB,intsOf,fillC,Value.cells,pt,Value.oneCell',reduceIte,reduceCtorEq,Nat.reduceEqDiff,Nat.reduceAdd,Nat.reduceMul,Nat.reduceLT,Nat.reduceBEq,Nat.reduceLeDiff,Nat.reduceSub]
     refine CutQ.mk ⟨nx,nx,s.found++[((s.at_:Int),(nx:Int) - s.at_,g.1)],lz s.lost s.since s.at_⟩ J2 ?_
     simp only [hs2]
     exact (Wk.gc [0,1,2,3,9,5] [] (of_decide_eq_true rfl) (of_decide_eq_true rfl) rfl rfl (of_decide_eq_true rfl) rfl rfl (by repeat (first|exact xiOK_nil|refine xiOK_cons (by first|trivial|exact roomOK _ (by decide)) ?_)) rfl (by simp -implicitDefEqProofs (disch:=first|decide|exact of_eq_true (eq_true rfl)|omega|assumption) only [mvF,okFB,objOK,sgL,xiL,objAt,nilO,OM,mvL,mv,mvS,okS,okP,mvL_rows,okML,okM,okML_rows,List.getElem?_cons_zero,Option.getD_some,implies_true,imp_self,ne_eq,and_self,true_or,or_true,Nat.zero_mul,Nat.sub_self,openB_self,↓vcD,vcE,↓vcG,vcF,evs,evP,evB,intsOf,fillC,Value.cells,pt,Value.oneCell',reduceIte,reduceCtorEq,Nat.reduceEqDiff,Nat.reduceAdd,Nat.reduceMul,Nat.reduceLT,Nat.reduceBEq,Nat.reduceLeDiff,Nat.reduceSub]) (by simp -implicitDefEqProofs (disch:=first|decide|exact of_eq_true (eq_true rfl)|omega|assumption) only [mvF,okFB,valOK,sgL,xiL,mv,mvA,mvL,mvS,okS,okP,okM,okMA,okML,Option.getD_some,implies_true,and_self,true_or,or_true,Int.natCast_add,Int.cast_ofNat_Int,Nat.zero_mul,Nat.sub_self,openB_self,↓vcD,vcE,↓vcG,vcF,evs,evP,evB,intsOf,fillC,Value.cells,pt,Value.oneCell',reduceIte,reduceCtorEq,Nat.reduceEqDiff,Nat.reduceAdd,Nat.reduceMul,Nat.reduceLT,Nat.reduceBEq,Nat.reduceLeDiff,Nat.reduceSub]) (fun _ h=>by cases h) ⟨rfl,fun _ h=>by cases h⟩)
   ·rw [if_neg he] at J2
    have hk1:(s.at_:Int) + 1 = ((s.at_ + 1:Nat):Int):=by omega
    refine ITri.reg pok ?_; simp -implicitDefEqProofs (disch:=first|decide|exact of_eq_true (eq_true rfl)|omega|assumption) only [he,decide_false,Bool.not_false, ↓vcD,vcE,↓vcG,vcF,evs,evP,evB,intsOf,fillC,Value.cells,pt,Value.oneCell',reduceIte,reduceCtorEq,Nat.reduceEqDiff,Nat.reduceAdd,Nat.reduceMul,Nat.reduceLT,Nat.reduceBEq,Nat.reduceLeDiff,Nat.reduceSub]
    refine ITri.cond (v:=true) rfl (fun _=>?_) (fun h=>by cases h)
    refine ITri.seq ?_
    refine ITri.reg pok ?_; simp -implicitDefEqProofs (disch:=first|decide|exact of_eq_true (eq_true rfl)|omega|assumption) only [hk1, ↓vcD,vcE,↓vcG,vcF,evs,evP,evB,intsOf,fillC,Value.cells,pt,Value.oneCell',reduceIte,reduceCtorEq,Nat.reduceEqDiff,Nat.reduceAdd,Nat.reduceMul,Nat.reduceLT,Nat.reduceBEq,Nat.reduceLeDiff,Nat.reduceSub]
    refine ITri.exit ?_; try simp -implicitDefEqProofs (disch:=first|decide|exact of_eq_true (eq_true rfl)|omega|assumption) only [↓vcD,vcE,↓vcG,vcF,evs,evP,evB,intsOf,fillC,Value.cells,pt,Value.oneCell',reduceIte,reduceCtorEq,Nat.reduceEqDiff,Nat.reduceAdd,Nat.reduceMul,Nat.reduceLT,Nat.reduceBEq,Nat.reduceLeDiff,Nat.reduceSub]
    exact CutQ.mk ⟨s.at_ + 1,s.since,s.found,s.lost⟩ J2 (Wk.gc [0,1,2,3,4,5] [] (of_decide_eq_true rfl) (of_decide_eq_true rfl) rfl rfl (of_decide_eq_true rfl) rfl rfl (by repeat (first|exact xiOK_nil|refine xiOK_cons (by first|trivial|exact roomOK _ (by decide)) ?_)) rfl (by simp -implicitDefEqProofs (disch:=first|decide|exact of_eq_true (eq_true rfl)|omega|assumption) only [mvF,okFB,objOK,sgL,xiL,objAt,nilO,OM,mvL,mv,mvS,okS,okP,mvL_rows,okML,okM,okML_rows,List.getElem?_cons_zero,Option.getD_some,implies_true,imp_self,ne_eq,and_self,true_or,or_true,Nat.zero_mul,Nat.sub_self,openB_self,↓vcD,vcE,↓vcG,vcF,evs,evP,evB,intsOf,fillC,Value.cells,pt,Value.oneCell',reduceIte,reduceCtorEq,Nat.reduceEqDiff,Nat.reduceAdd,Nat.reduceMul,Nat.reduceLT,Nat.reduceBEq,Nat.reduceLeDiff,Nat.reduceSub]) (by simp -implicitDefEqProofs (disch:=first|decide|exact of_eq_true (eq_true rfl)|omega|assumption) only [mvF,okFB,valOK,sgL,xiL,mv,mvA,mvL,mvS,okS,okP,okM,okMA,okML,Option.getD_some,implies_true,and_self,true_or,or_true,Int.natCast_add,Int.cast_ofNat_Int,Nat.zero_mul,Nat.sub_self,openB_self,↓vcD,vcE,↓vcG,vcF,evs,evP,evB,intsOf,fillC,Value.cells,pt,Value.oneCell',reduceIte,reduceCtorEq,Nat.reduceEqDiff,Nat.reduceAdd,Nat.reduceMul,Nat.reduceLT,Nat.reduceBEq,Nat.reduceLeDiff,Nat.reduceSub]) (fun _ h=>by cases h) ⟨rfl,fun _ h=>by cases h⟩)
  exact LoopQ.next i hi.1 (by have:=hi.1.2.1; omega) (Wk.sub ⟨rfl,rfl,rfl,rfl,rfl,rfl,trivial⟩)
 refine ITri.exit ?_; try simp -implicitDefEqProofs (disch:=first|decide|exact of_eq_true (eq_true rfl)|omega|assumption) only [↓vcD,vcE,↓vcG,vcF,evs,evP,evB,intsOf,fillC,Value.cells,pt,Value.oneCell',reduceIte,reduceCtorEq,Nat.reduceEqDiff,Nat.reduceAdd,Nat.reduceMul,Nat.reduceLT,Nat.reduceBEq,Nat.reduceLeDiff,Nat.reduceSub]
 have hE:=sc_end J (by omega)
 have hat:s.at_ = n:=by obtain ⟨_,j2,_⟩:=J; omega
 have e1:scF xs = s.found:=by rw [scF,if_neg (by omega),← hE]
 have e2:scL xs = lz s.lost s.since n:=by rw [scL,if_neg (by omega),← hE,hat]
 obtain ⟨j1,j2,j3,j4,j5,j6⟩:=J
 rw [e1,e2,e3]
 refine ITri.seq ?_
 by_cases hsa:s.since < n
 ·refine ITri.reg pok ?_; simp -implicitDefEqProofs (disch:=first|decide|exact of_eq_true (eq_true rfl)|omega|assumption) only [↓vcD,vcE,↓vcG,vcF,evs,evP,evB,intsOf,fillC,Value.cells,pt,Value.oneCell',reduceIte,reduceCtorEq,Nat.reduceEqDiff,Nat.reduceAdd,Nat.reduceMul,Nat.reduceLT,Nat.reduceBEq,Nat.reduceLeDiff,Nat.reduceSub]
  refine ⟨_,_,lose_y hsa (by omega) (by omega),?_⟩
  simp -implicitDefEqProofs (disch:=first|decide|exact of_eq_true (eq_true rfl)|omega|assumption) only [List.length_cons,List.length_nil,List.cons_append,List.nil_append, ↓vcD,vcE,↓vcG,vcF,evs,evP,evB,intsOf,fillC,Value.cells,pt,Value.oneCell',reduceIte,reduceCtorEq,Nat.reduceEqDiff,Nat.reduceAdd,Nat.reduceMul,Nat.reduceLT,Nat.reduceBEq,Nat.reduceLeDiff,Nat.reduceSub]
  refine ITri.seq ?_
  refine ITri.draw pok ?_; simp -implicitDefEqProofs (disch:=first|decide|exact of_eq_true (eq_true rfl)|omega|assumption) only [↓vcD,vcE,↓vcG,vcF,evs,evP,evB,intsOf,fillC,Value.cells,pt,Value.oneCell',reduceIte,reduceCtorEq,Nat.reduceEqDiff,Nat.reduceAdd,Nat.reduceMul,Nat.reduceLT,Nat.reduceBEq,Nat.reduceLeDiff,Nat.reduceSub]
  refine ITri.ret ?_
  exact end_two (k:=4) (k2:=7) (by decide) (by decide) (by decide) (rows_no (f:=eF3) _) (rows_no (f:=eR2) _) rfl rfl (resF_tmp rfl (resF_cell rfl (by kernel_rfl) (by simp -implicitDefEqProofs (disch:=first|decide|exact of_eq_true (eq_true rfl)|omega|assumption) only [↓vcD,vcE,↓vcG,vcF,evs,evP,evB,intsOf,fillC,Value.cells,pt,Value.oneCell',reduceIte,reduceCtorEq,Nat.reduceEqDiff,Nat.reduceAdd,Nat.reduceMul,Nat.reduceLT,Nat.reduceBEq,Nat.reduceLeDiff,Nat.reduceSub]) (resF_tmp rfl resF_nil)))
 ·refine ITri.reg pok ?_; simp -implicitDefEqProofs (disch:=first|decide|exact of_eq_true (eq_true rfl)|omega|assumption) only [↓vcD,vcE,↓vcG,vcF,evs,evP,evB,intsOf,fillC,Value.cells,pt,Value.oneCell',reduceIte,reduceCtorEq,Nat.reduceEqDiff,Nat.reduceAdd,Nat.reduceMul,Nat.reduceLT,Nat.reduceBEq,Nat.reduceLeDiff,Nat.reduceSub]
  refine ⟨_,_,lose_n hsa,?_⟩
  try simp -implicitDefEqProofs (disch:=first|decide|exact of_eq_true (eq_true rfl)|omega|assumption) only [↓vcD,vcE,↓vcG,vcF,evs,evP,evB,intsOf,fillC,Value.cells,pt,Value.oneCell',reduceIte,reduceCtorEq,Nat.reduceEqDiff,Nat.reduceAdd,Nat.reduceMul,Nat.reduceLT,Nat.reduceBEq,Nat.reduceLeDiff,Nat.reduceSub]
  refine ITri.seq ?_
  refine ITri.draw pok ?_; simp -implicitDefEqProofs (disch:=first|decide|exact of_eq_true (eq_true rfl)|omega|assumption) only [↓vcD,vcE,↓vcG,vcF,evs,evP,evB,intsOf,fillC,Value.cells,pt,Value.oneCell',reduceIte,reduceCtorEq,Nat.reduceEqDiff,Nat.reduceAdd,Nat.reduceMul,Nat.reduceLT,Nat.reduceBEq,Nat.reduceLeDiff,Nat.reduceSub]
  refine ITri.ret ?_
  exact end_two (k:=4) (k2:=5) (by decide) (by decide) (by decide) (rows_no (f:=eF3) _) (rows_no (f:=eR2) _) rfl rfl (resF_tmp rfl (resF_cell rfl (by kernel_rfl) (by simp -implicitDefEqProofs (disch:=first|decide|exact of_eq_true (eq_true rfl)|omega|assumption) only [↓vcD,vcE,↓vcG,vcF,evs,evP,evB,intsOf,fillC,Value.cells,pt,Value.oneCell',reduceIte,reduceCtorEq,Nat.reduceEqDiff,Nat.reduceAdd,Nat.reduceMul,Nat.reduceLT,Nat.reduceBEq,Nat.reduceLeDiff,Nat.reduceSub]) (resF_tmp rfl resF_nil)))
end Go.Proofs.YtgjokhodccacoaaDoor
