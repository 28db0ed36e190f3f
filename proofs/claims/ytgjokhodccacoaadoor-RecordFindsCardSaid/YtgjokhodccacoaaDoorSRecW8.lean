import Derived.Test.YtgjokhodccacoaaDoorSRecW7
import Derived.Test.YtgjokhodccacoaaDoorSRecP3
set_option linter.unusedSimpArgs false
set_option linter.unusedVariables false
namespace Go.Proofs.YtgjokhodccacoaaDoor
open Go.RowKit Go.Vm
set_option maxRecDepth 100000
def putE (kind:Int) (n:Nat):Int:=if kind < 1∨250 < kind then 3 else if 10000 < n then 5 else 0
def putX (kind:Int) (xs:List Int):List Int:=if putE kind xs.length = 0 then frB kind.toNat xs else []
abbrev frV (kind:Int) (s:Value):Value:=.agg #[.int .i64 kind,s]
theorem mkF (kind:Int):MkL fun ss=>[.agg ⟨[Value.int .i64 kind]++ss++[]⟩]:=MkL.agg1 (MkL.mid rfl rfl) rfl
def ir22_r0:IC:=.reg [⟨some 1,none,false,.box (.t 0)⟩,
 ⟨some 2,none,false,.mv (.k (.slice none 0 0))⟩,
 ⟨some 3,none,false,.mv (.k (.int .i64 0))⟩] (some [1])
def ir22_r1:IC:=.reg [⟨some 6,none,false,.fad 0 (.t 1)⟩,
 ⟨some 7,none,false,.ldc (.t 6)⟩,
 ⟨some 8,none,false,.cmp .lss (.t 7) (.k (.int .i64 1))⟩,
 ⟨some 9,none,false,.mv (.t 8)⟩,
 ⟨some 10,some (9,false),false,.fad 0 (.t 1)⟩,
 ⟨some 11,some (9,false),false,.ldc (.t 10)⟩,
 ⟨some 12,some (9,false),false,.cmp .gtr (.t 11) (.k (.int .i64 250))⟩,
 ⟨some 13,none,false,.pick (.t 9) (.k (.bool true)) (.t 12)⟩,
 ⟨some 5,none,false,.mv (.t 13)⟩] (some [1,5])
def ir22_r2:IC:=.reg [⟨some 2,none,false,.mv (.k (.slice none 0 0))⟩,
 ⟨some 3,none,false,.mv (.k (.int .i64 3))⟩] (some [2,3])
def ir22_1:IC:=.seq ir22_r2 .ret
def ir22_r3:IC:=.reg [⟨some 15,none,false,.fad 1 (.t 1)⟩,
 ⟨some 16,none,false,.ldc (.t 15)⟩,
 ⟨some 17,none,false,.len (.t 16)⟩,
 ⟨some 18,none,false,.cmp .gtr (.t 17) (.k (.int .i64 10000))⟩,
 ⟨some 14,none,false,.mv (.t 18)⟩] (some [1,14])
def ir22_r4:IC:=.reg [⟨some 2,none,false,.mv (.k (.slice none 0 0))⟩,
 ⟨some 3,none,false,.mv (.k (.int .i64 5))⟩] (some [2,3])
def ir22_2:IC:=.seq ir22_r4 .ret
def ir22_3:IC:=.cond (.t 14) ir22_2 .skip
def ir22_4:IC:=.seq ir22_r3 ir22_3
def ir22_5:IC:=.cond (.t 5) ir22_1 ir22_4
def ir22_6:IC:=.seq ir22_r1 ir22_5
def ir22_7:IC:=.block 0 ir22_6
def ir22_r5:IC:=.reg [⟨some 4,none,false,.alloc [(.slice none 0 0),(.int .i64 0),(.int .i8 0)]⟩] (some [1,4])
def ir22_r6:IC:=.reg [⟨some 19,none,false,.fad 0 (.t 1)⟩,
 ⟨some 20,none,false,.ldc (.t 19)⟩,
 ⟨some 21,none,false,.fad 1 (.t 1)⟩,
 ⟨some 22,none,false,.ldc (.t 21)⟩,
 ⟨some 23,none,false,.call (.f 62) [(.t 4),(.t 20),(.t 22)]⟩] (some [4])
def ir22_r7:IC:=.reg [⟨some 24,none,false,.fad 0 (.t 4)⟩,
 ⟨some 25,none,false,.call (.f 63) [(.t 24)]⟩,
 ⟨some 2,none,false,.mv (.t 25)⟩,
 ⟨some 3,none,false,.mv (.k (.int .i64 0))⟩] (some [2,3])
def ir22_8:IC:=.seq ir22_r7 .ret
def ir22_9:IC:=.seq ir22_r6 ir22_8
def ir22_10:IC:=.seq ir22_r5 ir22_9
def ir22_11:IC:=.seq ir22_7 ir22_10
def ir22_12:IC:=.seq ir22_r0 ir22_11
def ir22:IC:=ir22_12
theorem fn22:FnIs Tryd.prog 22 ir22 26 [.tmp 2,.tmp 3]:=⟨Tryd.f22,Tryd.f22.body.getD .skip,Tryd.func22,by kernel_rfl,by kernel_rfl,by kernel_rfl,by kernel_rfl⟩
theorem put_c (n c : Nat) (kind : Int) (xs : List Int) (hn : xs.length = n) (hB : isB xs) :
    Fc Tryd.prog 22 [frV kind (.slice (some ⟨1,0,none⟩) n c)] (Hp 2 [none,srB xs]) (.tuple #[sO 2 (putX kind xs).length,.int .i64 (putE kind n)]) ((Hp 2 [none,srB xs]).news [.cells ⟨rows eB (putX kind xs),1,true⟩]):=by
 refine Fc.introR fn22 (by simp) rfl rfl ?_; simp only [argF]
 refine ITri.seq ?_
 refine ITri.reg pok ?_; simp -implicitDefEqProofs (disch:=first|decide|exact of_eq_true (eq_true rfl)|omega|assumption) only [↓vcD,vcE,↓vcG,vcF,evs,evP,evB,intsOf,fillC,Value.cells,pt,Value.oneCell',reduceIte,reduceCtorEq,Nat.reduceEqDiff,Nat.reduceAdd,Nat.reduceMul,Nat.reduceLT,Nat.reduceBEq,Nat.reduceLeDiff,Nat.reduceSub]
 refine ITri.seq ?_
 refine ITri.block ?_
 refine ITri.seq ?_
 by_cases g1:kind < 1
 ·have e:putE kind n = 3:=by unfold putE; rw [if_pos (.inl g1)]
  have ex:putX kind xs = []:=by unfold putX; rw [hn,e]; rfl
  rw [e,ex]
  refine ITri.reg pok ?_; simp -implicitDefEqProofs (disch:=first|decide|exact of_eq_true (eq_true rfl)|omega|assumption) only [g1,decide_true, ↓vcD,vcE,↓vcG,vcF,evs,evP,evB,intsOf,fillC,Value.cells,pt,Value.oneCell',reduceIte,reduceCtorEq,Nat.reduceEqDiff,Nat.reduceAdd,Nat.reduceMul,Nat.reduceLT,Nat.reduceBEq,Nat.reduceLeDiff,Nat.reduceSub]
  refine ITri.cond (v:=true) rfl (fun _=>?_) (fun h=>by cases h)
  refine ITri.seq ?_
  refine ITri.reg pok ?_; simp -implicitDefEqProofs (disch:=first|decide|exact of_eq_true (eq_true rfl)|omega|assumption) only [↓vcD,vcE,↓vcG,vcF,evs,evP,evB,intsOf,fillC,Value.cells,pt,Value.oneCell',reduceIte,reduceCtorEq,Nat.reduceEqDiff,Nat.reduceAdd,Nat.reduceMul,Nat.reduceLT,Nat.reduceBEq,Nat.reduceLeDiff,Nat.reduceSub]
  refine ITri.ret ?_
  exact end_nil (mk:=fun s=>.tuple #[s,.int .i64 3]) (mvP 3) (resF_tmp rfl (resF_tmp rfl resF_nil)) rfl
 by_cases g2:250 < kind
 ·have e:putE kind n = 3:=by unfold putE; rw [if_pos (.inr g2)]
  have ex:putX kind xs = []:=by unfold putX; rw [hn,e]; rfl
  rw [e,ex]
  refine ITri.reg pok ?_; simp -implicitDefEqProofs (disch:=first|decide|exact of_eq_true (eq_true rfl)|omega|assumption) only [g1,g2,decide_true,decide_false, ↓vcD,vcE,↓vcG,vcF,evs,evP,evB,intsOf,fillC,Value.cells,pt,Value.oneCell',reduceIte,reduceCtorEq,Nat.reduceEqDiff,Nat.reduceAdd,Nat.reduceMul,Nat.reduceLT,Nat.reduceBEq,Nat.reduceLeDiff,Nat.reduceSub]
  refine ITri.cond (v:=true) rfl (fun _=>?_) (fun h=>by cases h)
  refine ITri.seq ?_
  refine ITri.reg pok ?_; simp -implicitDefEqProofs (disch:=first|decide|exact of_eq_true (eq_true rfl)|omega|assumption) only [↓vcD,vcE,↓vcG,vcF,evs,evP,evB,intsOf,fillC,Value.cells,pt,Value.oneCell',reduceIte,reduceCtorEq,Nat.reduceEqDiff,Nat.reduceAdd,Nat.reduceMul,Nat.reduceLT,Nat.reduceBEq,Nat.reduceLeDiff,Nat.reduceSub]
  refine ITri.ret ?_
  exact end_nil (mk:=fun s=>.tuple #[s,.int .i64 3]) (mvP 3) (resF_tmp rfl (resF_tmp rfl resF_nil)) rfl
 refine ITri.reg pok ?_; simp -implicitDefEqProofs (disch:=first|decide|exact of_eq_true (eq_true rfl)|omega|assumption) only [g1,g2,decide_false, ↓vcD,vcE,↓vcG,vcF,evs,evP,evB,intsOf,fillC,Value.cells,pt,Value.oneCell',reduceIte,reduceCtorEq,Nat.reduceEqDiff,Nat.reduceAdd,Nat.reduceMul,Nat.reduceLT,Nat.reduceBEq,Nat.reduceLeDiff,Nat.reduceSub]
 refine ITri.cond (v:=false) rfl (fun h=>by cases h) (fun _=>?_)
 refine ITri.seq ?_
 by_cases g3:10000 < n
 ·have e:putE kind n = 5:=by unfold putE; rw [if_neg (by omega),if_pos g3]
  have ex:putX kind xs = []:=by unfold putX; rw [hn,e]; rfl
  have g3' : (10000:Int) < n:=by omega
  rw [e,ex]
  refine ITri.reg pok ?_; simp -implicitDefEqProofs (disch:=first|decide|exact of_eq_true (eq_true rfl)|omega|assumption) only [g3',decide_true, ↓vcD,vcE,↓vcG,vcF,evs,evP,evB,intsOf,fillC,Value.cells,pt,Value.oneCell',reduceIte,reduceCtorEq,Nat.reduceEqDiff,Nat.reduceAdd,Nat.reduceMul,Nat.reduceLT,Nat.reduceBEq,Nat.reduceLeDiff,Nat.reduceSub]
  refine ITri.cond (v:=true) rfl (fun _=>?_) (fun h=>by cases h)
  refine ITri.seq ?_
  refine ITri.reg pok ?_; simp -implicitDefEqProofs (disch:=first|decide|exact of_eq_true (eq_true rfl)|omega|assumption) only [↓vcD,vcE,↓vcG,vcF,evs,evP,evB,intsOf,fillC,Value.cells,pt,Value.oneCell',reduceIte,reduceCtorEq,Nat.reduceEqDiff,Nat.reduceAdd,Nat.reduceMul,Nat.reduceLT,Nat.reduceBEq,Nat.reduceLeDiff,Nat.reduceSub]
  refine ITri.ret ?_
  exact end_nil (mk:=fun s=>.tuple #[s,.int .i64 5]) (mvP 5) (resF_tmp rfl (resF_tmp rfl resF_nil)) rfl
 have g3' : ¬ (10000:Int) < n:=by omega
 have e:putE kind n = 0:=by unfold putE; rw [if_neg (by omega),if_neg g3]
 have ex:putX kind xs = frB kind.toNat xs:=by unfold putX; rw [hn,e]; rfl
 rw [e,ex]
 obtain ⟨K,rfl⟩:=Int.eq_ofNat_of_zero_le (show 0≤kind by omega)
 rw [Int.toNat_natCast]
 have hT:takeC (rows eB xs) 0 n = some (rows eB xs):=by
  rw [takeC_eq _ _ _ (by rw [rows_len]; omega),List.drop_zero,List.take_of_length_le (by rw [rows_len]; omega)]
 refine ITri.reg pok ?_; simp -implicitDefEqProofs (disch:=first|decide|exact of_eq_true (eq_true rfl)|omega|assumption) only [g3',decide_false, ↓vcD,vcE,↓vcG,vcF,evs,evP,evB,intsOf,fillC,Value.cells,pt,Value.oneCell',reduceIte,reduceCtorEq,Nat.reduceEqDiff,Nat.reduceAdd,Nat.reduceMul,Nat.reduceLT,Nat.reduceBEq,Nat.reduceLeDiff,Nat.reduceSub]
 refine ITri.cond (v:=false) rfl (fun h=>by cases h) (fun _=>?_); refine ITri.skip ?_; simp only [SeqQ_normal,BlkQ_normal]
 refine ITri.seq ?_
 refine ITri.reg pok ?_; simp -implicitDefEqProofs (disch:=first|decide|exact of_eq_true (eq_true rfl)|omega|assumption) only [↓vcD,vcE,↓vcG,vcF,evs,evP,evB,intsOf,fillC,Value.cells,pt,Value.oneCell',reduceIte,reduceCtorEq,Nat.reduceEqDiff,Nat.reduceAdd,Nat.reduceMul,Nat.reduceLT,Nat.reduceBEq,Nat.reduceLeDiff,Nat.reduceSub]
 refine ITri.seq ?_
 refine ITri.reg pok ?_; simp -implicitDefEqProofs (disch:=first|decide|exact of_eq_true (eq_true rfl)|omega|assumption) only [↓vcD,vcE,↓vcG,vcF,evs,evP,evB,intsOf,fillC,Value.cells,pt,Value.oneCell',reduceIte,reduceCtorEq,Nat.reduceEqDiff,Nat.reduceAdd,Nat.reduceMul,Nat.reduceLT,Nat.reduceBEq,Nat.reduceLeDiff,Nat.reduceSub]
 have W:Wr 2 [none,srB xs,some (AObj.cells ⟨[.int .i64 K,.slice (some ⟨1,0,none⟩) n c],1,false⟩),bufE] 3 3 []:=⟨by decide,.inl ⟨rfl,rfl,rfl⟩⟩
 obtain ⟨L',k',T,F⟩:=frame_x (kind:=K) (m:=n) (k2:=1) (o2:=0) (c2:=c) W (by omega) rfl hT hn (by decide) (by decide) (by omega) (by decide) hB
 rw [List.nil_append] at T
 refine ⟨_,_,F,?_⟩
 obtain ⟨q0,q1,q2,q3,q4⟩ : 1≤(frB K xs).length∧3≠k'∧2≤k'∧L'[3]? = some (bufO (.slice (some ⟨k',0,none⟩) (frB K xs).length openB))∧L'[k']? = some (opR (frB K xs)):=by
  rcases T.st.st with ⟨h,_,_⟩|h
  ·simp [frB,frH] at h
  ·exact h
 try simp -implicitDefEqProofs (disch:=first|decide|exact of_eq_true (eq_true rfl)|omega|assumption) only [↓vcD,vcE,↓vcG,vcF,evs,evP,evB,intsOf,fillC,Value.cells,pt,Value.oneCell',reduceIte,reduceCtorEq,Nat.reduceEqDiff,Nat.reduceAdd,Nat.reduceMul,Nat.reduceLT,Nat.reduceBEq,Nat.reduceLeDiff,Nat.reduceSub]
 refine ITri.seq ?_
 refine ITri.reg pok ?_; simp -implicitDefEqProofs (disch:=first|decide|exact of_eq_true (eq_true rfl)|omega|assumption) only [↓vcD,vcE,↓vcG,vcF,evs,evP,evB,intsOf,fillC,Value.cells,pt,Value.oneCell',reduceIte,reduceCtorEq,Nat.reduceEqDiff,Nat.reduceAdd,Nat.reduceMul,Nat.reduceLT,Nat.reduceBEq,Nat.reduceLeDiff,Nat.reduceSub]
 refine ⟨_,_,bytes_w q3,?_⟩
 try simp -implicitDefEqProofs (disch:=first|decide|exact of_eq_true (eq_true rfl)|omega|assumption) only [↓vcD,vcE,↓vcG,vcF,evs,evP,evB,intsOf,fillC,Value.cells,pt,Value.oneCell',reduceIte,reduceCtorEq,Nat.reduceEqDiff,Nat.reduceAdd,Nat.reduceMul,Nat.reduceLT,Nat.reduceBEq,Nat.reduceLeDiff,Nat.reduceSub]
 refine ITri.ret ?_
 exact end_mk (k:=k') (mk:=fun s=>.tuple #[s,.int .i64 0]) (mvP 0) q2 (rows_no (f:=eB) _) (by rw [q4]; rfl) (resF_tmp rfl (resF_tmp rfl resF_nil)) rfl
theorem put_f {n c sz k : Nat} {op : Bool} {kind : Int} {xs : List Int} {h : AH} (hn : xs.length = n) (hB : isB xs) (hs : h.sees 0 = true) (hg : h.get k = some (.cells ⟨rows eB xs, sz, op⟩)) :
    Fc Tryd.prog 22 [frV kind (.slice (some ⟨k,0,none⟩) n c)] h (.tuple #[sO h.next (putX kind xs).length,.int .i64 (putE kind n)]) (h.news [.cells ⟨rows eB (putX kind xs),1,true⟩]) :=
 Fc.lift1o (os:=[((putX kind xs).length,rows eB (putX kind xs),1)]) (mk:=fun ss=>[.agg ⟨[Value.int .i64 kind]++ss++[]⟩]) (mkv:=fun ss=>.tuple ⟨ss++[.int .i64 (putE kind n)]⟩) (put_c n c kind xs hn hB) (mkF kind) (MkV.tup (MkL.app rfl)) (rows_no (f:=eB) _) (fun o h=>by simp at h; subst h; exact rows_no (f:=eB) _) hs hg
end Go.Proofs.YtgjokhodccacoaaDoor
