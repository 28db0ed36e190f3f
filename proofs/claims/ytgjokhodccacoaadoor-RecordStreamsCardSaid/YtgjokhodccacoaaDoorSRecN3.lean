import Derived.Test.YtgjokhodccacoaaDoorSRecN2
import Derived.Test.YtgjokhodccacoaaDoorSRecB
set_option linter.unusedSimpArgs false
set_option linter.unusedVariables false
namespace Go.Proofs.YtgjokhodccacoaaDoor
open Go.RowKit Go.Vm
set_option maxRecDepth 100000
theorem getB {xs:List Int} {i:Nat} (hi:i < xs.length):(rows eB xs)[i]? = some (.int .u8 (nth xs i)):=rows_get1 (f:=eB) hi
abbrev t3 (r:Int×Int×Int):Value:=.tuple #[.int .i64 r.1,.int .i64 r.2.1,.int .i64 r.2.2]
def ir99_r0:IC:=.reg [⟨some 6,none,false,.mv (.k (.int .i64 0))⟩,
 ⟨some 7,none,false,.mv (.k (.int .i64 0))⟩,
 ⟨some 8,none,false,.mv (.k (.int .i64 0))⟩] (some [0,1,2])
def ir99_r1:IC:=.reg [⟨some 11,none,false,.mv (.t 0)⟩,
 ⟨some 12,none,false,.len (.t 11)⟩,
 ⟨some 13,none,false,.cmp .gtr (.t 12) (.k (.int .i64 30000))⟩] (some [0,1,2,13])
def ir99_r2:IC:=.reg [⟨some 6,none,false,.mv (.k (.int .i64 0))⟩,
 ⟨some 7,none,false,.mv (.k (.int .i64 0))⟩,
 ⟨some 8,none,false,.mv (.k (.int .i64 5))⟩] (some [6,7,8])
def ir99_1:IC:=.seq ir99_r2 .ret
def ir99_2:IC:=.cond (.t 13) ir99_1 .skip
def ir99_3:IC:=.seq ir99_r1 ir99_2
def ir99_r3:IC:=.reg [⟨some 14,none,false,.mv (.t 1)⟩,
 ⟨some 15,none,false,.cmp .lss (.t 14) (.k (.int .i64 0))⟩,
 ⟨some 16,none,false,.mv (.t 15)⟩,
 ⟨some 17,some (16,false),false,.mv (.t 1)⟩,
 ⟨some 18,some (16,false),false,.mv (.t 0)⟩,
 ⟨some 19,some (16,false),false,.len (.t 18)⟩,
 ⟨some 20,some (16,false),false,.cmp .gtr (.t 17) (.t 19)⟩,
 ⟨some 21,none,false,.pick (.t 16) (.k (.bool true)) (.t 20)⟩] (some [0,1,2,21])
def ir99_r4:IC:=.reg [⟨some 6,none,false,.mv (.k (.int .i64 0))⟩,
 ⟨some 7,none,false,.mv (.k (.int .i64 0))⟩,
 ⟨some 8,none,false,.mv (.k (.int .i64 3))⟩] (some [6,7,8])
def ir99_4:IC:=.seq ir99_r4 .ret
def ir99_5:IC:=.cond (.t 21) ir99_4 .skip
def ir99_6:IC:=.seq ir99_r3 ir99_5
def ir99_r5:IC:=.reg [⟨some 22,none,false,.mv (.t 1)⟩,
 ⟨some 23,none,false,.mv (.t 0)⟩,
 ⟨some 24,none,false,.len (.t 23)⟩,
 ⟨some 25,none,false,.cmp .eql (.t 22) (.t 24)⟩] (some [0,1,2,25])
def ir99_r6:IC:=.reg [⟨some 6,none,false,.mv (.k (.int .i64 0))⟩,
 ⟨some 7,none,false,.mv (.k (.int .i64 0))⟩,
 ⟨some 8,none,false,.mv (.k (.int .i64 60))⟩] (some [6,7,8])
def ir99_7:IC:=.seq ir99_r6 .ret
def ir99_8:IC:=.cond (.t 25) ir99_7 .skip
def ir99_9:IC:=.seq ir99_r5 ir99_8
def ir99_r7:IC:=.reg [⟨some 26,none,false,.mv (.t 0)⟩,
 ⟨some 27,none,false,.mv (.t 1)⟩,
 ⟨some 28,none,false,.iad 1 (.t 26) (.t 27)⟩,
 ⟨some 29,none,false,.ldc (.t 28)⟩,
 ⟨some 30,none,false,.cmp .eql (.t 29) (.k (.int .u8 128))⟩] (some [0,1,2,30])
def ir99_r8:IC:=.reg [⟨some 6,none,false,.mv (.k (.int .i64 0))⟩,
 ⟨some 7,none,false,.mv (.k (.int .i64 0))⟩,
 ⟨some 8,none,false,.mv (.k (.int .i64 61))⟩] (some [6,7,8])
def ir99_10:IC:=.seq ir99_r8 .ret
def ir99_11:IC:=.cond (.t 30) ir99_10 .skip
def ir99_12:IC:=.seq ir99_r7 ir99_11
def ir99_r9:IC:=.reg [⟨some 9,none,false,.mv (.k (.int .i64 0))⟩] (some [0,1,2,9])
def ir99_r10:IC:=.reg [⟨some 31,none,false,.mv (.t 1)⟩,
 ⟨some 10,none,false,.mv (.t 31)⟩] (some [0,1,2,9,10])
def ir99_r11:IC:=.reg [⟨some 32,none,false,.mv (.t 10)⟩,
 ⟨some 33,none,false,.mv (.t 0)⟩,
 ⟨some 34,none,false,.len (.t 33)⟩,
 ⟨some 35,none,false,.cmp .lss (.t 32) (.t 34)⟩] (some [0,1,2,9,10,35])
def ir99_13:IC:=.cond (.t 35) .skip (.exit 0)
def ir99_14:IC:=.seq ir99_r11 ir99_13
def ir99_r13:IC:=.reg [⟨some 38,none,false,.mv (.t 10)⟩,
 ⟨some 39,none,false,.mv (.t 1)⟩,
 ⟨some 40,none,false,.ar .add (.t 39) (.k (.int .i64 9))⟩,
 ⟨some 41,none,false,.cmp .eql (.t 38) (.t 40)⟩] (some [0,1,2,9,10,41])
def ir99_r14:IC:=.reg [⟨some 6,none,false,.mv (.k (.int .i64 0))⟩,
 ⟨some 7,none,false,.mv (.k (.int .i64 0))⟩,
 ⟨some 8,none,false,.mv (.k (.int .i64 3))⟩] (some [6,7,8])
def ir99_15:IC:=.seq ir99_r14 .ret
def ir99_16:IC:=.cond (.t 41) ir99_15 .skip
def ir99_17:IC:=.seq ir99_r13 ir99_16
def ir99_r15:IC:=.reg [⟨some 42,none,false,.mv (.t 9)⟩,
 ⟨some 43,none,false,.ar .mul (.k (.int .i64 128)) (.t 42)⟩,
 ⟨some 44,none,false,.mv (.t 0)⟩,
 ⟨some 45,none,false,.mv (.t 10)⟩,
 ⟨some 46,none,false,.iad 1 (.t 44) (.t 45)⟩,
 ⟨some 47,none,false,.ldc (.t 46)⟩,
 ⟨some 48,none,false,.div .rem (.t 47) (.k (.int .u8 128))⟩,
 ⟨some 49,none,false,.conv .i64 (.t 48)⟩,
 ⟨some 50,none,false,.ar .add (.t 43) (.t 49)⟩,
 ⟨some 9,none,false,.mv (.t 50)⟩] (some [0,1,2,9,10])
def ir99_r16:IC:=.reg [⟨some 51,none,false,.mv (.t 0)⟩,
 ⟨some 52,none,false,.mv (.t 10)⟩,
 ⟨some 53,none,false,.iad 1 (.t 51) (.t 52)⟩,
 ⟨some 54,none,false,.ldc (.t 53)⟩,
 ⟨some 55,none,false,.cmp .geq (.t 54) (.k (.int .u8 128))⟩] (some [0,1,2,9,10,55])
def ir99_18:IC:=.cond (.t 55) (.exit 1) .skip
def ir99_19:IC:=.seq ir99_r16 ir99_18
def ir99_r17:IC:=.reg [⟨some 56,none,false,.mv (.t 9)⟩,
 ⟨some 57,none,false,.mv (.t 2)⟩,
 ⟨some 58,none,false,.cmp .gtr (.t 56) (.t 57)⟩] (some [9,10,58])
def ir99_r18:IC:=.reg [⟨some 6,none,false,.mv (.k (.int .i64 0))⟩,
 ⟨some 7,none,false,.mv (.k (.int .i64 0))⟩,
 ⟨some 8,none,false,.mv (.k (.int .i64 3))⟩] (some [6,7,8])
def ir99_20:IC:=.seq ir99_r18 .ret
def ir99_21:IC:=.cond (.t 58) ir99_20 .skip
def ir99_22:IC:=.seq ir99_r17 ir99_21
def ir99_r19:IC:=.reg [⟨some 59,none,false,.mv (.t 9)⟩,
 ⟨some 60,none,false,.mv (.t 10)⟩,
 ⟨some 61,none,false,.ar .add (.t 60) (.k (.int .i64 1))⟩,
 ⟨some 6,none,false,.mv (.t 59)⟩,
 ⟨some 7,none,false,.mv (.t 61)⟩,
 ⟨some 8,none,false,.mv (.k (.int .i64 0))⟩] (some [6,7,8])
def ir99_23:IC:=.seq ir99_r19 .ret
def ir99_24:IC:=.seq ir99_22 ir99_23
def ir99_25:IC:=.seq ir99_19 ir99_24
def ir99_26:IC:=.seq ir99_r15 ir99_25
def ir99_27:IC:=.seq ir99_17 ir99_26
def ir99_28:IC:=.block 1 ir99_27
def ir99_r12:IC:=.reg [⟨some 36,none,false,.mv (.t 10)⟩,
 ⟨some 37,none,false,.ar .add (.t 36) (.k (.int .i64 1))⟩,
 ⟨some 10,none,false,.mv (.t 37)⟩] (some [0,1,2,9,10])
def ir99_29:IC:=.seq ir99_28 ir99_r12
def ir99_30:IC:=.seq ir99_14 ir99_29
def ir99_31:IC:=.loop ir99_30
def ir99_32:IC:=.block 0 ir99_31
def ir99_33:IC:=.seq ir99_r10 ir99_32
def ir99_r20:IC:=.reg [⟨some 62,none,false,.mv (.t 0)⟩,
 ⟨some 63,none,false,.len (.t 62)⟩,
 ⟨some 64,none,false,.mv (.t 1)⟩,
 ⟨some 65,none,false,.ar .sub (.t 63) (.t 64)⟩,
 ⟨some 66,none,false,.cmp .geq (.t 65) (.k (.int .i64 9))⟩] (some [66])
def ir99_r21:IC:=.reg [⟨some 6,none,false,.mv (.k (.int .i64 0))⟩,
 ⟨some 7,none,false,.mv (.k (.int .i64 0))⟩,
 ⟨some 8,none,false,.mv (.k (.int .i64 3))⟩] (some [6,7,8])
def ir99_34:IC:=.seq ir99_r21 .ret
def ir99_35:IC:=.cond (.t 66) ir99_34 .skip
def ir99_36:IC:=.seq ir99_r20 ir99_35
def ir99_r22:IC:=.reg [⟨some 6,none,false,.mv (.k (.int .i64 0))⟩,
 ⟨some 7,none,false,.mv (.k (.int .i64 0))⟩,
 ⟨some 8,none,false,.mv (.k (.int .i64 60))⟩] (some [6,7,8])
def ir99_37:IC:=.seq ir99_r22 .ret
def ir99_38:IC:=.seq ir99_36 ir99_37
def ir99_39:IC:=.seq ir99_33 ir99_38
def ir99_40:IC:=.seq ir99_r9 ir99_39
def ir99_41:IC:=.seq ir99_12 ir99_40
def ir99_42:IC:=.seq ir99_9 ir99_41
def ir99_43:IC:=.seq ir99_6 ir99_42
def ir99_44:IC:=.seq ir99_3 ir99_43
def ir99_45:IC:=.seq ir99_r0 ir99_44
def ir99:IC:=ir99_45
theorem fn99:FnIs Tryd.prog 99 ir99 67 [.tmp 6,.tmp 7,.tmp 8]:=⟨Tryd.f99,Tryd.f99.body.getD .skip,Tryd.func99,by kernel_rfl,by kernel_rfl,by kernel_rfl,by kernel_rfl⟩
def ir54_r0:IC:=.reg [⟨some 4,none,false,.mv (.k (.int .i64 0))⟩,
 ⟨some 5,none,false,.mv (.k (.int .i64 0))⟩,
 ⟨some 6,none,false,.mv (.k (.int .i64 0))⟩] (some [0,1])
def ir54_r1:IC:=.reg [⟨some 7,none,false,.mv (.t 0)⟩,
 ⟨some 8,none,false,.mv (.t 1)⟩,
 ⟨some 9,none,false,.call (.f 99) [(.t 7),(.t 8),(.k (.int .i64 1000000000000000))]⟩,
 ⟨some 10,none,false,.ext (.t 9) 0⟩,
 ⟨some 11,none,false,.ext (.t 9) 1⟩,
 ⟨some 12,none,false,.ext (.t 9) 2⟩,
 ⟨some 4,none,false,.mv (.t 10)⟩,
 ⟨some 5,none,false,.mv (.t 11)⟩,
 ⟨some 6,none,false,.mv (.t 12)⟩] (some [4,5,6])
def ir54_1:IC:=.seq ir54_r1 .ret
def ir54_2:IC:=.seq ir54_r0 ir54_1
def ir54:IC:=ir54_2
theorem fn54:FnIs Tryd.prog 54 ir54 13 [.tmp 4,.tmp 5,.tmp 6]:=⟨Tryd.f54,Tryd.f54.body.getD .skip,Tryd.func54,by kernel_rfl,by kernel_rfl,by kernel_rfl,by kernel_rfl⟩
def ir20_r0:IC:=.reg [⟨some 2,none,false,.mv (.k (.slice none 0 0))⟩] (some [0])
def ir20_r1:IC:=.reg [⟨some 3,none,false,.bsl 1 0 [] []⟩,
 ⟨some 4,none,false,.mv (.t 0)⟩,
 ⟨some 5,none,false,.app 1 1 (.t 3) (.t 4)⟩,
 ⟨some 2,none,false,.mv (.t 5)⟩] (some [2])
def ir20_1:IC:=.seq ir20_r1 .ret
def ir20_2:IC:=.seq ir20_r0 ir20_1
def ir20:IC:=ir20_2
theorem fn20:FnIs Tryd.prog 20 ir20 6 [.tmp 2]:=⟨Tryd.f20,Tryd.f20.body.getD .skip,Tryd.func20,by kernel_rfl,by kernel_rfl,by kernel_rfl,by kernel_rfl⟩
theorem rnum_c (n c : Nat) (at_ most : Int) (xs : List Int) (hn : xs.length = n) (hB : isB xs) (hb : n ≤ 1000000) :
    Fc Tryd.prog 99 [.slice (some ⟨1,0,none⟩) n c,.int .i64 at_,.int .i64 most] (Hp 2 [none,srB xs]) (t3 (resN xs most id at_)) (Hp 2 [none,srB xs]):=by
 refine Fc.intro0 fn99 (by simp) rfl rfl ?_; simp only [argF]
 refine ITri.seq ?_
 refine ITri.reg pok ?_; simp -implicitDefEqProofs (disch:=first|decide|exact of_eq_true (eq_true rfl)|omega|assumption) only [↓vcD,vcE,↓vcG,vcF,evs,evP,evB,intsOf,fillC,Value.cells,pt,Value.oneCell',reduceIte,reduceCtorEq,Nat.reduceEqDiff,Nat.reduceAdd,Nat.reduceMul,Nat.reduceLT,Nat.reduceBEq,Nat.reduceLeDiff,Nat.reduceSub]
 refine ITri.seq ?_
 refine ITri.seq ?_
 refine ITri.reg pok ?_; simp -implicitDefEqProofs (disch:=first|decide|exact of_eq_true (eq_true rfl)|omega|assumption) only [↓vcD,vcE,↓vcG,vcF,evs,evP,evB,intsOf,fillC,Value.cells,pt,Value.oneCell',reduceIte,reduceCtorEq,Nat.reduceEqDiff,Nat.reduceAdd,Nat.reduceMul,Nat.reduceLT,Nat.reduceBEq,Nat.reduceLeDiff,Nat.reduceSub]
 refine ITri.condD (by rfl) (fun h1=>?_) (fun h1=>?_)
 ·rw [show resN xs most id at_ = (0,0,5) by unfold resN; rw [hn,if_pos (by omega)]]
  refine ITri.seq ?_
  refine ITri.reg pok ?_; simp -implicitDefEqProofs (disch:=first|decide|exact of_eq_true (eq_true rfl)|omega|assumption) only [↓vcD,vcE,↓vcG,vcF,evs,evP,evB,intsOf,fillC,Value.cells,pt,Value.oneCell',reduceIte,reduceCtorEq,Nat.reduceEqDiff,Nat.reduceAdd,Nat.reduceMul,Nat.reduceLT,Nat.reduceBEq,Nat.reduceLeDiff,Nat.reduceSub]
  refine ITri.ret ?_; exact EndR.plain (by simp) (by rfl) (by rfl) (by rfl)
 refine ITri.skip ?_; simp only [SeqQ_normal,BlkQ_normal]
 refine ITri.seq ?_
 refine ITri.seq ?_
 by_cases h2:at_ < 0∨(n:Int) < at_
 ·rw [show resN xs most id at_ = (0,0,3) by unfold resN; rw [hn,if_neg (by omega),if_pos h2]]
  refine ITri.one [(0,.slice (some ⟨1,0,none⟩) n c),(1,.int .i64 at_),(2,.int .i64 most),(21,.bool true)] ?_ ?_
  ·by_cases g:at_ < 0
   ·refine ITri.reg pok ?_; simp -implicitDefEqProofs (disch:=first|decide|exact of_eq_true (eq_true rfl)|omega|assumption) only [g,decide_true, ↓vcD,vcE,↓vcG,vcF,evs,evP,evB,intsOf,fillC,Value.cells,pt,Value.oneCell',reduceIte,reduceCtorEq,Nat.reduceEqDiff,Nat.reduceAdd,Nat.reduceMul,Nat.reduceLT,Nat.reduceBEq,Nat.reduceLeDiff,Nat.reduceSub]
   ·have g2:(n:Int) < at_:=by omega
    refine ITri.reg pok ?_; simp -implicitDefEqProofs (disch:=first|decide|exact of_eq_true (eq_true rfl)|omega|assumption) only [g,g2,decide_true,decide_false, ↓vcD,vcE,↓vcG,vcF,evs,evP,evB,intsOf,fillC,Value.cells,pt,Value.oneCell',reduceIte,reduceCtorEq,Nat.reduceEqDiff,Nat.reduceAdd,Nat.reduceMul,Nat.reduceLT,Nat.reduceBEq,Nat.reduceLeDiff,Nat.reduceSub]
  refine ITri.cond (v:=true) rfl (fun _=>?_) (fun h=>by cases h)
  refine ITri.seq ?_
  refine ITri.reg pok ?_; simp -implicitDefEqProofs (disch:=first|decide|exact of_eq_true (eq_true rfl)|omega|assumption) only [↓vcD,vcE,↓vcG,vcF,evs,evP,evB,intsOf,fillC,Value.cells,pt,Value.oneCell',reduceIte,reduceCtorEq,Nat.reduceEqDiff,Nat.reduceAdd,Nat.reduceMul,Nat.reduceLT,Nat.reduceBEq,Nat.reduceLeDiff,Nat.reduceSub]
  refine ITri.ret ?_; exact EndR.plain (by simp) (by rfl) (by rfl) (by rfl)
 obtain ⟨k,rfl⟩:=Int.eq_ofNat_of_zero_le (show 0≤at_ by omega)
 have g1 : ¬ (k:Int) < 0:=by omega
 have g2 : ¬ (n:Int) < (k:Int):=by omega
 have e0:resN xs most id k = match numG xs most k 9 0 with
  | .ok v nx=>(v,nx,0)
  | .err e _=>(0,0,e):=by
  unfold resN
  rw [hn,if_neg (by omega),if_neg h2,Int.toNat_natCast]
  cases numG xs most k 9 0 <;> rfl
 rw [e0]
 clear e0
 obtain ⟨R,eR⟩ : ∃ R,R = numG xs most k (9 - 0) 0:=⟨_,rfl⟩
 rw [show numG xs most k 9 0 = R from eR.symm]
 refine ITri.reg pok ?_; simp -implicitDefEqProofs (disch:=first|decide|exact of_eq_true (eq_true rfl)|omega|assumption) only [g1,g2,decide_false, ↓vcD,vcE,↓vcG,vcF,evs,evP,evB,intsOf,fillC,Value.cells,pt,Value.oneCell',reduceIte,reduceCtorEq,Nat.reduceEqDiff,Nat.reduceAdd,Nat.reduceMul,Nat.reduceLT,Nat.reduceBEq,Nat.reduceLeDiff,Nat.reduceSub]
 refine ITri.cond (v:=false) rfl (fun h=>by cases h) (fun _=>?_); refine ITri.skip ?_; simp only [SeqQ_normal,BlkQ_normal]
 refine ITri.seq ?_
 refine ITri.seq ?_
 refine ITri.reg pok ?_; simp -implicitDefEqProofs (disch:=first|decide|exact of_eq_true (eq_true rfl)|omega|assumption) only [↓vcD,vcE,↓vcG,vcF,evs,evP,evB,intsOf,fillC,Value.cells,pt,Value.oneCell',reduceIte,reduceCtorEq,Nat.reduceEqDiff,Nat.reduceAdd,Nat.reduceMul,Nat.reduceLT,Nat.reduceBEq,Nat.reduceLeDiff,Nat.reduceSub]
 refine ITri.condD (by rfl) (fun h3=>?_) (fun h3=>?_)
 ·rw [numG,if_pos (by omega)] at eR
  rw [eR]
  refine ITri.seq ?_
  refine ITri.reg pok ?_; simp -implicitDefEqProofs (disch:=first|decide|exact of_eq_true (eq_true rfl)|omega|assumption) only [↓vcD,vcE,↓vcG,vcF,evs,evP,evB,intsOf,fillC,Value.cells,pt,Value.oneCell',reduceIte,reduceCtorEq,Nat.reduceEqDiff,Nat.reduceAdd,Nat.reduceMul,Nat.reduceLT,Nat.reduceBEq,Nat.reduceLeDiff,Nat.reduceSub]
  refine ITri.ret ?_; exact EndR.plain (by simp) (by rfl) (by rfl) (by rfl)
 have gk:=getB (xs:=xs) (i:=k) (by omega)
 refine ITri.skip ?_; simp only [SeqQ_normal,BlkQ_normal]
 refine ITri.seq ?_
 refine ITri.seq ?_
 refine ITri.reg pok ?_; simp -implicitDefEqProofs (disch:=first|decide|exact of_eq_true (eq_true rfl)|omega|assumption) only [gk, ↓vcD,vcE,↓vcG,vcF,evs,evP,evB,intsOf,fillC,Value.cells,pt,Value.oneCell',reduceIte,reduceCtorEq,Nat.reduceEqDiff,Nat.reduceAdd,Nat.reduceMul,Nat.reduceLT,Nat.reduceBEq,Nat.reduceLeDiff,Nat.reduceSub]
 refine ITri.condD (by rfl) (fun h4=>?_) (fun h4=>?_)
 ·rw [numG,if_neg (by omega),if_pos ⟨rfl,h4⟩] at eR
  rw [eR]
  refine ITri.seq ?_
  refine ITri.reg pok ?_; simp -implicitDefEqProofs (disch:=first|decide|exact of_eq_true (eq_true rfl)|omega|assumption) only [↓vcD,vcE,↓vcG,vcF,evs,evP,evB,intsOf,fillC,Value.cells,pt,Value.oneCell',reduceIte,reduceCtorEq,Nat.reduceEqDiff,Nat.reduceAdd,Nat.reduceMul,Nat.reduceLT,Nat.reduceBEq,Nat.reduceLeDiff,Nat.reduceSub]
  refine ITri.ret ?_; exact EndR.plain (by simp) (by rfl) (by rfl) (by rfl)
 refine ITri.skip ?_; simp only [SeqQ_normal,BlkQ_normal]
 refine ITri.seq ?_
 refine ITri.reg pok ?_; simp -implicitDefEqProofs (disch:=first|decide|exact of_eq_true (eq_true rfl)|omega|assumption) only [↓vcD,vcE,↓vcG,vcF,evs,evP,evB,intsOf,fillC,Value.cells,pt,Value.oneCell',reduceIte,reduceCtorEq,Nat.reduceEqDiff,Nat.reduceAdd,Nat.reduceMul,Nat.reduceLT,Nat.reduceBEq,Nat.reduceLeDiff,Nat.reduceSub]
 refine ITri.seq ?_
 refine ITri.seq ?_
 refine ITri.reg pok ?_; simp -implicitDefEqProofs (disch:=first|decide|exact of_eq_true (eq_true rfl)|omega|assumption) only [↓vcD,vcE,↓vcG,vcF,evs,evP,evB,intsOf,fillC,Value.cells,pt,Value.oneCell',reduceIte,reduceCtorEq,Nat.reduceEqDiff,Nat.reduceAdd,Nat.reduceMul,Nat.reduceLT,Nat.reduceBEq,Nat.reduceLeDiff,Nat.reduceSub]
 refine ITri.block ?_
 refine ITri.loop (fun i:Nat=>[(0,.slice (some ⟨1,0,none⟩) n c),(1,.int .i64 k),(2,.int .i64 most),(9,.int .i64 (nG xs k i)),(10,.int .i64 ((k + i:Nat):Int))]) (fun _=>[]) (fun i=>Hp 2 [none,srB xs]) (fun i=>i≤9∧k + i≤n∧R = numG xs most k (9 - i) i) (fun i=>9 - i) 0 ⟨by omega,by omega,eR⟩ (Wk.sub ⟨rfl,rfl,rfl,rfl,rfl,trivial⟩) fun i hi=>?_
 obtain ⟨hi,hki,hJ⟩:=hi
 refine ITri.seq ?_
 refine ITri.seq ?_
 refine ITri.reg pok ?_; simp -implicitDefEqProofs (disch:=first|decide|exact of_eq_true (eq_true rfl)|omega|assumption) only [↓vcD,vcE,↓vcG,vcF,evs,evP,evB,intsOf,fillC,Value.cells,pt,Value.oneCell',reduceIte,reduceCtorEq,Nat.reduceEqDiff,Nat.reduceAdd,Nat.reduceMul,Nat.reduceLT,Nat.reduceBEq,Nat.reduceLeDiff,Nat.reduceSub]
 refine ITri.condD (by rfl) (fun h6=>?_) (fun h6=>?_)
 ·have gi:=getB (xs:=xs) (i:=k + i) (by omega)
  have hc:=hB _ (nth_mem (show k + i < xs.length by omega))
  refine ITri.skip ?_; simp only [SeqQ_normal,BlkQ_normal]
  refine ITri.seq ?_
  refine ITri.block ?_
  refine ITri.seq ?_
  refine ITri.seq ?_
  refine ITri.reg pok ?_; simp -implicitDefEqProofs (disch:=first|decide|exact of_eq_true (eq_true rfl)|omega|assumption) only [↓vcD,vcE,↓vcG,vcF,evs,evP,evB,intsOf,fillC,Value.cells,pt,Value.oneCell',reduceIte,reduceCtorEq,Nat.reduceEqDiff,Nat.reduceAdd,Nat.reduceMul,Nat.reduceLT,Nat.reduceBEq,Nat.reduceLeDiff,Nat.reduceSub]
  refine ITri.condD (by rfl) (fun h7=>?_) (fun h7=>?_)
  ·obtain rfl:i = 9:=by omega
   rw [hJ]
   refine ITri.seq ?_
   refine ITri.reg pok ?_; simp -implicitDefEqProofs (disch:=first|decide|exact of_eq_true (eq_true rfl)|omega|assumption) only [↓vcD,vcE,↓vcG,vcF,evs,evP,evB,intsOf,fillC,Value.cells,pt,Value.oneCell',reduceIte,reduceCtorEq,Nat.reduceEqDiff,Nat.reduceAdd,Nat.reduceMul,Nat.reduceLT,Nat.reduceBEq,Nat.reduceLeDiff,Nat.reduceSub]
   refine ITri.ret ?_; exact EndR.plain (by simp) (by rfl) (by rfl) (by rfl)
  have hi8:i≤8:=by omega
  rw [show 9 - i = (8 - i) + 1 by omega,numG,if_neg (by omega),if_neg (fun e=>by obtain ⟨rfl,e⟩:=e; exact h4 e)] at hJ
  have hg:=nG_8 (xs:=xs) (at_:=k) (i:=i) hi8
  have f1:128 * nG xs k i + nth xs (k + i) % 128 = nG xs k (i + 1):=by rw [nG,Int.mul_comm]
  have m1:=Int.emod_nonneg (nth xs (k + i)) (show (128:Int)≠0 by decide)
  have m2:=Int.emod_lt_of_pos (nth xs (k + i)) (show (0:Int) < 128 by decide)
  refine ITri.skip ?_; simp only [SeqQ_normal,BlkQ_normal]
  refine ITri.seq ?_
  refine ITri.reg pok ?_; simp -implicitDefEqProofs (disch:=first|decide|exact of_eq_true (eq_true rfl)|omega|assumption) only [gi,f1, ↓vcD,vcE,↓vcG,vcF,evs,evP,evB,intsOf,fillC,Value.cells,pt,Value.oneCell',reduceIte,reduceCtorEq,Nat.reduceEqDiff,Nat.reduceAdd,Nat.reduceMul,Nat.reduceLT,Nat.reduceBEq,Nat.reduceLeDiff,Nat.reduceSub]
  refine ITri.seq ?_
  refine ITri.seq ?_
  refine ITri.reg pok ?_; simp -implicitDefEqProofs (disch:=first|decide|exact of_eq_true (eq_true rfl)|omega|assumption) only [gi, ↓vcD,vcE,↓vcG,vcF,evs,evP,evB,intsOf,fillC,Value.cells,pt,Value.oneCell',reduceIte,reduceCtorEq,Nat.reduceEqDiff,Nat.reduceAdd,Nat.reduceMul,Nat.reduceLT,Nat.reduceBEq,Nat.reduceLeDiff,Nat.reduceSub]
  refine ITri.condD (by rfl) (fun h8=>?_) (fun h8=>?_)
  ·rw [if_neg (by omega)] at hJ
   have hi1:((k + i:Nat):Int) + 1 = ((k + (i + 1):Nat):Int):=by omega
   refine ITri.exit ?_; try simp -implicitDefEqProofs (disch:=first|decide|exact of_eq_true (eq_true rfl)|omega|assumption) only [↓vcD,vcE,↓vcG,vcF,evs,evP,evB,intsOf,fillC,Value.cells,pt,Value.oneCell',reduceIte,reduceCtorEq,Nat.reduceEqDiff,Nat.reduceAdd,Nat.reduceMul,Nat.reduceLT,Nat.reduceBEq,Nat.reduceLeDiff,Nat.reduceSub]
   refine ITri.reg pok ?_; simp -implicitDefEqProofs (disch:=first|decide|exact of_eq_true (eq_true rfl)|omega|assumption) only [hi1, ↓vcD,vcE,↓vcG,vcF,evs,evP,evB,intsOf,fillC,Value.cells,pt,Value.oneCell',reduceIte,reduceCtorEq,Nat.reduceEqDiff,Nat.reduceAdd,Nat.reduceMul,Nat.reduceLT,Nat.reduceBEq,Nat.reduceLeDiff,Nat.reduceSub]
   exact LoopQ.next (i + 1) ⟨by omega,by omega,by rw [hJ]; congr 1; omega⟩ (by omega) (Wk.sub ⟨rfl,rfl,rfl,rfl,rfl,trivial⟩)
  rw [if_pos (by omega)] at hJ
  refine ITri.skip ?_; simp only [SeqQ_normal,BlkQ_normal]
  refine ITri.seq ?_
  refine ITri.seq ?_
  refine ITri.reg pok ?_; simp -implicitDefEqProofs (disch:=first|decide|exact of_eq_true (eq_true rfl)|omega|assumption) only [↓vcD,vcE,↓vcG,vcF,evs,evP,evB,intsOf,fillC,Value.cells,pt,Value.oneCell',reduceIte,reduceCtorEq,Nat.reduceEqDiff,Nat.reduceAdd,Nat.reduceMul,Nat.reduceLT,Nat.reduceBEq,Nat.reduceLeDiff,Nat.reduceSub]
  refine ITri.condD (by rfl) (fun h9=>?_) (fun h9=>?_)
  ·rw [if_pos h9] at hJ
   rw [hJ]
   refine ITri.seq ?_
   refine ITri.reg pok ?_; simp -implicitDefEqProofs (disch:=first|decide|exact of_eq_true (eq_true rfl)|omega|assumption) only [↓vcD,vcE,↓vcG,vcF,evs,evP,evB,intsOf,fillC,Value.cells,pt,Value.oneCell',reduceIte,reduceCtorEq,Nat.reduceEqDiff,Nat.reduceAdd,Nat.reduceMul,Nat.reduceLT,Nat.reduceBEq,Nat.reduceLeDiff,Nat.reduceSub]
   refine ITri.ret ?_; exact EndR.plain (by simp) (by rfl) (by rfl) (by rfl)
  rw [if_neg h9] at hJ
  rw [hJ]
  have hi1:((k + i:Nat):Int) + 1 = ((k + i + 1:Nat):Int):=by omega
  refine ITri.skip ?_; simp only [SeqQ_normal,BlkQ_normal]
  refine ITri.seq ?_
  refine ITri.reg pok ?_; simp -implicitDefEqProofs (disch:=first|decide|exact of_eq_true (eq_true rfl)|omega|assumption) only [hi1, ↓vcD,vcE,↓vcG,vcF,evs,evP,evB,intsOf,fillC,Value.cells,pt,Value.oneCell',reduceIte,reduceCtorEq,Nat.reduceEqDiff,Nat.reduceAdd,Nat.reduceMul,Nat.reduceLT,Nat.reduceBEq,Nat.reduceLeDiff,Nat.reduceSub]
  refine ITri.ret ?_; exact EndR.plain (by simp) (by rfl) (by rfl) (by rfl)
 refine ITri.exit ?_; try simp -implicitDefEqProofs (disch:=first|decide|exact of_eq_true (eq_true rfl)|omega|assumption) only [↓vcD,vcE,↓vcG,vcF,evs,evP,evB,intsOf,fillC,Value.cells,pt,Value.oneCell',reduceIte,reduceCtorEq,Nat.reduceEqDiff,Nat.reduceAdd,Nat.reduceMul,Nat.reduceLT,Nat.reduceBEq,Nat.reduceLeDiff,Nat.reduceSub]
 refine ITri.seq ?_
 refine ITri.seq ?_
 refine ITri.reg pok ?_; simp -implicitDefEqProofs (disch:=first|decide|exact of_eq_true (eq_true rfl)|omega|assumption) only [↓vcD,vcE,↓vcG,vcF,evs,evP,evB,intsOf,fillC,Value.cells,pt,Value.oneCell',reduceIte,reduceCtorEq,Nat.reduceEqDiff,Nat.reduceAdd,Nat.reduceMul,Nat.reduceLT,Nat.reduceBEq,Nat.reduceLeDiff,Nat.reduceSub]
 refine ITri.condD (by rfl) (fun h10=>?_) (fun h10=>?_)
 ·obtain rfl:i = 9:=by omega
  rw [hJ]
  refine ITri.seq ?_
  refine ITri.reg pok ?_; simp -implicitDefEqProofs (disch:=first|decide|exact of_eq_true (eq_true rfl)|omega|assumption) only [↓vcD,vcE,↓vcG,vcF,evs,evP,evB,intsOf,fillC,Value.cells,pt,Value.oneCell',reduceIte,reduceCtorEq,Nat.reduceEqDiff,Nat.reduceAdd,Nat.reduceMul,Nat.reduceLT,Nat.reduceBEq,Nat.reduceLeDiff,Nat.reduceSub]
  refine ITri.ret ?_; exact EndR.plain (by simp) (by rfl) (by rfl) (by rfl)
 rw [show 9 - i = (8 - i) + 1 by omega,numG,if_pos (by omega)] at hJ
 rw [hJ]
 refine ITri.skip ?_; simp only [SeqQ_normal,BlkQ_normal]
 refine ITri.seq ?_
 refine ITri.reg pok ?_; simp -implicitDefEqProofs (disch:=first|decide|exact of_eq_true (eq_true rfl)|omega|assumption) only [↓vcD,vcE,↓vcG,vcF,evs,evP,evB,intsOf,fillC,Value.cells,pt,Value.oneCell',reduceIte,reduceCtorEq,Nat.reduceEqDiff,Nat.reduceAdd,Nat.reduceMul,Nat.reduceLT,Nat.reduceBEq,Nat.reduceLeDiff,Nat.reduceSub]
 refine ITri.ret ?_; exact EndR.plain (by simp) (by rfl) (by rfl) (by rfl)
section
variable {n c sz k:Nat} {op:Bool} {xs:List Int} {h:AH}
theorem rnum_f (at_ most:Int) (hn:xs.length = n) (hB:isB xs) (hb:n≤1000000) (hs:h.sees 0 = true) (hg:h.get k = some (.cells ⟨rows eB xs,sz,op⟩)):Fc Tryd.prog 99 [.slice (some ⟨k,0,none⟩) n c,.int .i64 at_,.int .i64 most] h (t3 (resN xs most id at_)) h :=
 Fc.lift1o (os:=[]) (mk:=fun ss=>ss++[.int .i64 at_,.int .i64 most]) (mkv:=fun _=>t3 (resN xs most id at_)) (rnum_c n c at_ most xs hn hB hb) (MkL.app rfl) (MkV.const rfl) (rows_no (f:=eB) _) (fun o h=>by cases h) hs hg
end
theorem plain_c (n c : Nat) (at_ : Int) (xs : List Int) (hn : xs.length = n) (hB : isB xs) (hb : n ≤ 1000000) :
    Fc Tryd.prog 54 [.slice (some ⟨1,0,none⟩) n c,.int .i64 at_] (Hp 2 [none,srB xs]) (t3 (resN xs 1000000000000000 id at_)) (Hp 2 [none,srB xs]):=by
 refine Fc.intro0 fn54 (by simp) rfl rfl ?_; simp only [argF]
 refine ITri.seq ?_
 refine ITri.reg pok ?_; simp -implicitDefEqProofs (disch:=first|decide|exact of_eq_true (eq_true rfl)|omega|assumption) only [↓vcD,vcE,↓vcG,vcF,evs,evP,evB,intsOf,fillC,Value.cells,pt,Value.oneCell',reduceIte,reduceCtorEq,Nat.reduceEqDiff,Nat.reduceAdd,Nat.reduceMul,Nat.reduceLT,Nat.reduceBEq,Nat.reduceLeDiff,Nat.reduceSub]
 refine ITri.seq ?_
 refine ITri.reg pok ?_; simp -implicitDefEqProofs (disch:=first|decide|exact of_eq_true (eq_true rfl)|omega|assumption) only [↓vcD,vcE,↓vcG,vcF,evs,evP,evB,intsOf,fillC,Value.cells,pt,Value.oneCell',reduceIte,reduceCtorEq,Nat.reduceEqDiff,Nat.reduceAdd,Nat.reduceMul,Nat.reduceLT,Nat.reduceBEq,Nat.reduceLeDiff,Nat.reduceSub]
 refine ⟨_,_,rnum_f _ _ hn hB hb (sees0 rfl (of_decide_eq_true rfl)) (get_hq rfl rfl),?_⟩
 try simp -implicitDefEqProofs (disch:=first|decide|exact of_eq_true (eq_true rfl)|omega|assumption) only [↓vcD,vcE,↓vcG,vcF,evs,evP,evB,intsOf,fillC,Value.cells,pt,Value.oneCell',reduceIte,reduceCtorEq,Nat.reduceEqDiff,Nat.reduceAdd,Nat.reduceMul,Nat.reduceLT,Nat.reduceBEq,Nat.reduceLeDiff,Nat.reduceSub]
 refine ITri.ret ?_; exact EndR.plain (by simp) (by rfl) (by rfl) (by rfl)
section
variable {n c sz k:Nat} {op:Bool} {xs:List Int} {h:AH}
theorem plain_f (at_:Int) (hn:xs.length = n) (hB:isB xs) (hb:n≤1000000) (hs:h.sees 0 = true) (hg:h.get k = some (.cells ⟨rows eB xs,sz,op⟩)):Fc Tryd.prog 54 [.slice (some ⟨k,0,none⟩) n c,.int .i64 at_] h (t3 (resN xs 1000000000000000 id at_)) h :=
 Fc.lift1o (os:=[]) (mk:=fun ss=>ss++[.int .i64 at_]) (mkv:=fun _=>t3 (resN xs 1000000000000000 id at_)) (plain_c n c at_ xs hn hB hb) (MkL.app rfl) (MkV.const rfl) (rows_no (f:=eB) _) (fun o h=>by cases h) hs hg
end
theorem ownB_c (n c : Nat) (xs : List Int) (hn : xs.length = n) (hb : n ≤ 1000000) :
    Fc Tryd.prog 20 [.slice (some ⟨1,0,none⟩) n c] (Hp 2 [none,srB xs]) (sO 2 n) ((Hp 2 [none,srB xs]).news [.cells ⟨rows eB xs,1,true⟩]):=by
 refine Fc.introR fn20 (by simp) rfl rfl ?_; simp only [argF]
 have hl:(rows eB xs).length = n * 1:=by rw [rows_len,hn]
 refine ITri.seq ?_
 refine ITri.reg pok ?_; simp -implicitDefEqProofs (disch:=first|decide|exact of_eq_true (eq_true rfl)|omega|assumption) only [↓vcD,vcE,↓vcG,vcF,evs,evP,evB,intsOf,fillC,Value.cells,pt,Value.oneCell',reduceIte,reduceCtorEq,Nat.reduceEqDiff,Nat.reduceAdd,Nat.reduceMul,Nat.reduceLT,Nat.reduceBEq,Nat.reduceLeDiff,Nat.reduceSub]
 refine ITri.seq ?_
 by_cases h0:n = 0
 ·subst h0
  obtain rfl:=List.eq_nil_of_length_eq_zero hn
  refine ITri.reg pok ?_; simp -implicitDefEqProofs (disch:=first|decide|exact of_eq_true (eq_true rfl)|omega|assumption) only [appK_0, ↓vcD,vcE,↓vcG,vcF,evs,evP,evB,intsOf,fillC,Value.cells,pt,Value.oneCell',reduceIte,reduceCtorEq,Nat.reduceEqDiff,Nat.reduceAdd,Nat.reduceMul,Nat.reduceLT,Nat.reduceBEq,Nat.reduceLeDiff,Nat.reduceSub]
  refine ITri.ret ?_
  exact end_room (k:=2) (cs:=[]) (op:=false) (n:=0) (mk:=fun s=>s) 0 ⟨fun _ _ _=>rfl,fun _ _ _ h=>h⟩ (by decide) (by decide) (by decide) rfl rfl (by decide) (by first|rfl|simp) (resF_tmp rfl resF_nil) rfl
 ·refine ITri.reg pok ?_; simp -implicitDefEqProofs (disch:=first|decide|exact of_eq_true (eq_true rfl)|omega|assumption) only [hl,rows_allT, ↓vcD,vcE,↓vcG,vcF,evs,evP,evB,intsOf,fillC,Value.cells,pt,Value.oneCell',reduceIte,reduceCtorEq,Nat.reduceEqDiff,Nat.reduceAdd,Nat.reduceMul,Nat.reduceLT,Nat.reduceBEq,Nat.reduceLeDiff,Nat.reduceSub]
  refine ITri.ret ?_
  exact end_mk (k:=3) (n:=n) (mk:=fun s=>s) ⟨fun _ _ _=>rfl,fun _ _ _ h=>h⟩ (by decide) (rows_no (f:=eB) _) rfl (resF_tmp rfl resF_nil) rfl
theorem ownB_f {n c sz k:Nat} {op:Bool} {xs:List Int} {h:AH} (hn:xs.length = n) (hb:n≤1000000) (hs:h.sees 0 = true) (hg:h.get k = some (.cells ⟨rows eB xs,sz,op⟩)):Fc Tryd.prog 20 [.slice (some ⟨k,0,none⟩) n c] h (sO h.next n) (h.news [.cells ⟨rows eB xs,1,true⟩]) :=
 Fc.lift1o (os:=[(n,rows eB xs,1)]) (mk:=fun ss=>ss++[]) (mkv:=fun ss=>ss.headD undef) (ownB_c n c xs hn hb) (MkL.app rfl) MkV.one (rows_no (f:=eB) _) (fun o h=>by simp at h; subst h; exact rows_no (f:=eB) _) hs hg
end Go.Proofs.YtgjokhodccacoaaDoor
