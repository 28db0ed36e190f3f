import Derived.Test.YtgjokhodccacoaaDoorSRecA
set_option linter.unusedSimpArgs false
set_option linter.unusedVariables false
namespace Go.Vm
open Go Go.RowKit
section
variable {P:Program} {nt b:Nat} {rd:Option Nat} {l:Fr} {ms:List Nat} {h:AH} {Q:AEx→Fr→List Nat→AH→Prop}
theorem ITri.panE {t s : Nat} {e : Int} {live : Option (List Nat)} (ok : POk P) (hp : pureRun P (Instr.makeInterface t (.int .i64 e)) = some (.iface t (.int .i64 e))) (q : Q (.pan (.iface t (.int .i64 e))) ((s, .iface t (.int .i64 e)) :: l) ms h) :
    ITri P nt rd b (.reg [⟨some s,none,false,.gen (.makeInterface t (.const (.int .i64 e)))⟩,⟨none,none,false,.gen (.panic (.tmp s))⟩] live) l ms h Q:=by
 refine ITri.regP 1 ok ?_
 rw [iRowP_s]
 refine ⟨.iface t (.int .i64 e),h,?_,?_⟩
 ·have e1:aEnv (trOf l) (.const (.int .i64 e)) = some (.int .i64 e):=rfl
  simp only [aOp,e1,noAddr,if_true,hp]
 ·show iRowP P 0 _ _ _ _
  rw [iRowP_0,iStepP_tmp (putF_some s _ l ▸ lk_hit s _ l) rfl]
  exact q
end
theorem wrap_nat {n:Nat} (h:n < 9223372036854775808):IntKind.i64.wrap (n:Int) = n:=wrap_inR (by rw [inR_i64]; omega)
theorem shl7 {a:Int} (h0:0≤a) (h1:a < 72057594037927936):shI .shl .i64 a 7 = a * 128:=by
 show IntKind.i64.wrap (a * 2 ^ (min (7:Int).toNat 64)) = _
 rw [show (min (7:Int).toNat 64) = 7 from rfl,show (2:Int) ^ 7 = 128 from rfl]
 exact wrap_inR (by rw [inR_i64]; omega)
theorem and127 {c:Int} (h0:0≤c) (h1:c≤255):btI .and .u8 c 127 = c % 128:=by
 obtain ⟨n,rfl⟩:=Int.eq_ofNat_of_zero_le h0
 show IntKind.u8.wrap _ = _
 rw [show IntKind.u8.bits = 8 from rfl,show (127:Int) = ((127:Nat):Int) from rfl,BitVec.ofInt_natCast,BitVec.ofInt_natCast,BitVec.toNat_and,BitVec.toNat_ofNat,BitVec.toNat_ofNat]
 have:n % 2 ^ 8 &&& 127 % 2 ^ 8 = n % 128:=by
  rw [Nat.mod_eq_of_lt (by omega:n < 2 ^ 8),show 127 % 2 ^ 8 = 2 ^ 7 - 1 from rfl,Nat.and_two_pow_sub_one_eq_mod]
 rw [this,wrap_inR (by rw [inR_u8]; omega)]
 omega
theorem or7 {a r:Int} (h0:0≤a) (h1:a < 72057594037927936) (h2:0≤r) (h3:r < 128):btI .or .i64 (a * 128) r = a * 128 + r:=by
 obtain ⟨A,rfl⟩:=Int.eq_ofNat_of_zero_le h0
 obtain ⟨R,rfl⟩:=Int.eq_ofNat_of_zero_le h2
 show IntKind.i64.wrap _ = _
 rw [show IntKind.i64.bits = 64 from rfl,show (A:Int) * 128 = ((2 ^ 7 * A:Nat):Int) by omega,BitVec.ofInt_natCast,BitVec.ofInt_natCast,BitVec.toNat_or,BitVec.toNat_ofNat,BitVec.toNat_ofNat,Nat.mod_eq_of_lt (by omega),Nat.mod_eq_of_lt (by omega),← Nat.two_pow_add_eq_or_of_lt (by omega:R < 2 ^ 7) A,wrap_nat (by omega)]
 omega
theorem set_same' {L:List (Option AObj)} {k:Nat} {o:AObj} (h:(L[k]?).join = some o):L.set k (some o) = L:=by
 apply List.ext_getElem?
 intro i
 rw [List.getElem?_set]
 split
 ·rename_i e
  subst e
  cases hx:L[k]? with
  | none=>rw [hx] at h; cases h
  | some x =>
   rw [hx] at h
   have:x = some o:=h
   rw [if_pos (List.getElem?_eq_some_iff.1 hx).1,this]
 ·rfl
theorem get_lt' {L:List (Option AObj)} {k:Nat} {o:AObj} (h:(L[k]?).join = some o):k < L.length:=by
 rcases Nat.lt_or_ge k L.length with h1|h1
 ·exact h1
 ·rw [List.getElem?_eq_none h1] at h; cases h
theorem set_hit {L:List (Option AObj)} {k:Nat} {x:Option AObj} (h:k < L.length):((L.set k x)[k]?).join = x:=by rw [List.getElem?_set_self h]; rfl
theorem set_ne {L:List (Option AObj)} {k j:Nat} {x:Option AObj} (h:k≠j):(L.set k x)[j]? = L[j]?:=List.getElem?_set_ne h
theorem set_set' {L:List (Option AObj)} {k:Nat} {x y:Option AObj}:(L.set k x).set k y = L.set k y:=List.set_set ..
theorem set_take {L:List (Option AObj)} {k wl:Nat} {x:Option AObj} (h:wl≤k):(L.set k x).take wl = L.take wl:=by
 rw [List.take_set_of_le h]
end Go.Vm
namespace Go.Proofs.YtgjokhodccacoaaDoor
open Go.RowKit Go.Vm
set_option maxRecDepth 100000
abbrev eB (n:Int):List Value:=[.int .u8 n]
instance flB:FlatE eB 1:=⟨fun _=>rfl,fun _=>rfl,fun _=>rfl⟩
def isB (xs:List Int):Prop:=∀ x∈xs,0≤x∧x≤255
abbrev errV (e:Int):Value:=.iface 26 (.int .i64 e)
theorem z00:((0:Nat):Int) = 0:=rfl
theorem mkE (e:Int):pureRun Tryd.prog (Instr.makeInterface 26 (.int .i64 e)) = some (errV e):=by kernel_rfl
abbrev rdC (ks o n c at_:Nat):AObj:=.cells ⟨[.slice (some ⟨ks,o,none⟩) n c,.int .i64 at_],1,false⟩
def Bys (cs:List Value) (o:Nat) (xs:List Int):Prop:=∀ i,i < xs.length→cs[o + i]? = some (.int .u8 (nth xs i))
def ir106_r0:IC:=.reg [⟨some 2,none,false,.mv (.k (.int .u8 0))⟩] (some [0])
def ir106_r1:IC:=.draw [(⟨some 3,none,false,.mv (.t 0)⟩,false,0,0),
 (⟨some 4,none,false,.nilck (.t 3)⟩,false,1,0),
 (⟨some 5,none,false,.fad 1 (.t 4)⟩,false,3,0),
 (⟨some 6,none,false,.ldc (.t 5)⟩,false,7,1),
 (⟨some 7,none,false,.mv (.t 0)⟩,false,0,0),
 (⟨some 8,none,false,.nilck (.t 7)⟩,false,16,0),
 (⟨some 9,none,false,.fad 0 (.t 8)⟩,false,48,0),
 (⟨some 10,none,false,.ldc (.t 9)⟩,false,112,8),
 (⟨some 11,none,false,.len (.t 10)⟩,false,240,8),
 (⟨some 12,none,false,.cmp .geq (.t 6) (.t 11)⟩,false,511,0)] (some [0,12])
def ir106_r2:IC:=.reg [⟨some 13,none,false,.gen (.makeInterface 26 (.const (.int .i64 60)))⟩,
 ⟨none,none,false,.gen (.panic (.tmp 13))⟩] (some [0])
def ir106_1:IC:=.cond (.t 12) ir106_r2 .skip
def ir106_2:IC:=.seq ir106_r1 ir106_1
def ir106_r3:IC:=.reg [⟨some 14,none,false,.mv (.t 0)⟩,
 ⟨some 15,none,false,.nilck (.t 14)⟩,
 ⟨some 16,none,false,.fad 1 (.t 15)⟩,
 ⟨some 17,none,false,.ldc (.t 16)⟩,
 ⟨some 18,none,false,.ar .add (.t 17) (.k (.int .i64 1))⟩,
 ⟨some 19,none,false,.nilck (.t 14)⟩,
 ⟨some 20,none,false,.fad 1 (.t 19)⟩,
 ⟨none,none,false,.st 1 (.t 20) (.t 18)⟩] (some [0])
def ir106_r4:IC:=.draw [(⟨some 21,none,false,.mv (.t 0)⟩,false,0,0),
 (⟨some 22,none,false,.nilck (.t 21)⟩,false,1,0),
 (⟨some 23,none,false,.fad 0 (.t 22)⟩,false,3,0),
 (⟨some 24,none,false,.ldc (.t 23)⟩,false,7,1),
 (⟨some 25,none,false,.mv (.t 0)⟩,false,0,0),
 (⟨some 26,none,false,.nilck (.t 25)⟩,false,16,0),
 (⟨some 27,none,false,.fad 1 (.t 26)⟩,false,48,0),
 (⟨some 28,none,false,.ldc (.t 27)⟩,false,112,8),
 (⟨some 29,none,false,.ar .sub (.t 28) (.k (.int .i64 1))⟩,false,240,0),
 (⟨some 30,none,false,.iad 1 (.t 24) (.t 29)⟩,false,511,0),
 (⟨some 31,none,false,.ldc (.t 30)⟩,true,1023,0),
 (⟨some 2,none,false,.mv (.t 31)⟩,false,2047,0)] (some [2])
def ir106_3:IC:=.seq ir106_r4 .ret
def ir106_4:IC:=.seq ir106_r3 ir106_3
def ir106_5:IC:=.seq ir106_2 ir106_4
def ir106_6:IC:=.seq ir106_r0 ir106_5
def ir106:IC:=ir106_6
theorem fn106:FnIs Tryd.prog 106 ir106 32 [.tmp 2]:=⟨Tryd.f106,Tryd.f106.body.getD .skip,Tryd.func106,by kernel_rfl,by kernel_rfl,by kernel_rfl,by kernel_rfl⟩
def ir96_r0:IC:=.reg [⟨some 4,none,false,.mv (.k (.int .i64 0))⟩] (some [0,1,4])
def ir96_r1:IC:=.reg [⟨some 5,none,false,.mv (.k (.int .i64 0))⟩] (some [0,1,4,5])
def ir96_r2:IC:=.reg [⟨some 8,none,false,.mv (.k (.int .i64 0))⟩] (some [0,1,4,5,8])
def ir96_r3:IC:=.reg [⟨some 9,none,false,.cmp .lss (.t 8) (.k (.int .i64 9))⟩] (some [0,1,4,5,8,9])
def ir96_1:IC:=.cond (.t 9) .skip (.exit 0)
def ir96_r4:IC:=.reg [⟨some 10,none,false,.mv (.t 8)⟩,
 ⟨some 6,none,false,.mv (.t 10)⟩] (some [0,1,4,5,6,8])
def ir96_r5:IC:=.reg [⟨some 11,none,false,.mv (.t 0)⟩,
 ⟨some 12,none,false,.call (.f 106) [(.t 11)]⟩,
 ⟨some 7,none,false,.mv (.t 12)⟩] (some [0,1,4,5,6,7,8])
def ir96_r6:IC:=.reg [⟨some 13,none,false,.mv (.t 6)⟩,
 ⟨some 14,none,false,.cmp .eql (.t 13) (.k (.int .i64 0))⟩,
 ⟨some 15,none,false,.mv (.t 14)⟩,
 ⟨some 16,some (15,true),false,.mv (.t 7)⟩,
 ⟨some 17,some (15,true),false,.cmp .eql (.t 16) (.k (.int .u8 128))⟩,
 ⟨some 18,none,false,.pick (.t 15) (.t 17) (.k (.bool false))⟩] (some [0,1,4,5,7,8,18])
def ir96_r7:IC:=.reg [⟨some 19,none,false,.gen (.makeInterface 26 (.const (.int .i64 61)))⟩,
 ⟨none,none,false,.gen (.panic (.tmp 19))⟩] (some [0,1,4,5,7,8])
def ir96_2:IC:=.cond (.t 18) ir96_r7 .skip
def ir96_3:IC:=.seq ir96_r6 ir96_2
def ir96_r8:IC:=.reg [⟨some 20,none,false,.mv (.t 5)⟩,
 ⟨some 21,none,false,.shf .shl (.t 20) (.k (.int .u64 7))⟩,
 ⟨some 22,none,false,.mv (.t 7)⟩,
 ⟨some 23,none,false,.bits .and (.t 22) (.k (.int .u8 127))⟩,
 ⟨some 24,none,false,.conv .i64 (.t 23)⟩,
 ⟨some 25,none,false,.bits .or (.t 21) (.t 24)⟩,
 ⟨some 5,none,false,.mv (.t 25)⟩] (some [0,1,4,5,7,8])
def ir96_r9:IC:=.reg [⟨some 26,none,false,.mv (.t 7)⟩,
 ⟨some 27,none,false,.cmp .lss (.t 26) (.k (.int .u8 128))⟩] (some [0,1,4,5,8,27])
def ir96_r10:IC:=.reg [⟨some 28,none,false,.mv (.t 5)⟩,
 ⟨some 29,none,false,.mv (.t 1)⟩,
 ⟨some 30,none,false,.cmp .gtr (.t 28) (.t 29)⟩] (some [5,30])
def ir96_r11:IC:=.reg [⟨some 31,none,false,.gen (.makeInterface 26 (.const (.int .i64 3)))⟩,
 ⟨none,none,false,.gen (.panic (.tmp 31))⟩] (some [5])
def ir96_4:IC:=.cond (.t 30) ir96_r11 .skip
def ir96_5:IC:=.seq ir96_r10 ir96_4
def ir96_r12:IC:=.reg [⟨some 32,none,false,.mv (.t 5)⟩,
 ⟨some 4,none,false,.mv (.t 32)⟩] (some [4])
def ir96_6:IC:=.seq ir96_r12 .ret
def ir96_7:IC:=.seq ir96_5 ir96_6
def ir96_8:IC:=.cond (.t 27) ir96_7 .skip
def ir96_9:IC:=.seq ir96_r9 ir96_8
def ir96_10:IC:=.seq ir96_r8 ir96_9
def ir96_11:IC:=.seq ir96_3 ir96_10
def ir96_12:IC:=.seq ir96_r5 ir96_11
def ir96_13:IC:=.seq ir96_r4 ir96_12
def ir96_14:IC:=.block 1 ir96_13
def ir96_r13:IC:=.reg [⟨some 33,none,false,.ar .add (.t 8) (.k (.int .i64 1))⟩,
 ⟨some 8,none,false,.mv (.t 33)⟩] (some [0,1,4,5,8])
def ir96_15:IC:=.seq ir96_14 ir96_r13
def ir96_16:IC:=.seq ir96_1 ir96_15
def ir96_17:IC:=.seq ir96_r3 ir96_16
def ir96_18:IC:=.loop ir96_17
def ir96_19:IC:=.block 0 ir96_18
def ir96_20:IC:=.seq ir96_r2 ir96_19
def ir96_r14:IC:=.reg [⟨some 34,none,false,.gen (.makeInterface 26 (.const (.int .i64 3)))⟩,
 ⟨none,none,false,.gen (.panic (.tmp 34))⟩] (some [4])
def ir96_21:IC:=.seq ir96_20 ir96_r14
def ir96_22:IC:=.seq ir96_r1 ir96_21
def ir96_23:IC:=.seq ir96_r0 ir96_22
def ir96:IC:=ir96_23
theorem fn96:FnIs Tryd.prog 96 ir96 35 [.tmp 4]:=⟨Tryd.f96,Tryd.f96.body.getD .skip,Tryd.func96,by kernel_rfl,by kernel_rfl,by kernel_rfl,by kernel_rfl⟩
def ir67_r0:IC:=.reg [⟨some 4,none,false,.mv (.k (.pointer none))⟩] (some [0,1])
def ir67_r1:IC:=.reg [⟨some 6,none,false,.mv (.t 0)⟩,
 ⟨some 7,none,false,.len (.t 6)⟩,
 ⟨some 8,none,false,.cmp .gtr (.t 7) (.k (.int .i64 30000))⟩,
 ⟨some 5,none,false,.mv (.t 8)⟩] (some [0,1,5])
def ir67_r2:IC:=.reg [⟨some 9,none,false,.gen (.makeInterface 26 (.const (.int .i64 5)))⟩,
 ⟨none,none,false,.gen (.panic (.tmp 9))⟩] (some [0,1])
def ir67_r3:IC:=.reg [⟨some 11,none,false,.mv (.t 1)⟩,
 ⟨some 12,none,false,.cmp .lss (.t 11) (.k (.int .i64 0))⟩,
 ⟨some 13,none,false,.mv (.t 12)⟩,
 ⟨some 14,some (13,false),false,.mv (.t 1)⟩,
 ⟨some 15,some (13,false),false,.mv (.t 0)⟩,
 ⟨some 16,some (13,false),false,.len (.t 15)⟩,
 ⟨some 17,some (13,false),false,.cmp .gtr (.t 14) (.t 16)⟩,
 ⟨some 18,none,false,.pick (.t 13) (.k (.bool true)) (.t 17)⟩,
 ⟨some 10,none,false,.mv (.t 18)⟩] (some [0,1,10])
def ir67_r4:IC:=.reg [⟨some 19,none,false,.gen (.makeInterface 26 (.const (.int .i64 3)))⟩,
 ⟨none,none,false,.gen (.panic (.tmp 19))⟩] (some [0,1])
def ir67_1:IC:=.cond (.t 10) ir67_r4 .skip
def ir67_2:IC:=.seq ir67_r3 ir67_1
def ir67_3:IC:=.cond (.t 5) ir67_r2 ir67_2
def ir67_4:IC:=.seq ir67_r1 ir67_3
def ir67_5:IC:=.block 0 ir67_4
def ir67_r5:IC:=.reg [⟨some 20,none,false,.mv (.t 0)⟩,
 ⟨some 21,none,false,.mv (.t 1)⟩,
 ⟨some 22,none,false,.bld [(.slice none 0 0),(.int .i64 0)] [(0,1,(.t 20)),(1,1,(.t 21))]⟩,
 ⟨some 23,none,false,.box (.t 22)⟩,
 ⟨some 4,none,false,.mv (.t 23)⟩] (some [4])
def ir67_6:IC:=.seq ir67_r5 .ret
def ir67_7:IC:=.seq ir67_5 ir67_6
def ir67_8:IC:=.seq ir67_r0 ir67_7
def ir67:IC:=ir67_8
theorem fn67:FnIs Tryd.prog 67 ir67 24 [.tmp 4]:=⟨Tryd.f67,Tryd.f67.body.getD .skip,Tryd.func67,by kernel_rfl,by kernel_rfl,by kernel_rfl,by kernel_rfl⟩
section
variable {wl kr ks o n c at_ sz:Nat} {op:Bool} {L:List (Option AObj)} {cs:List Value} {xs:List Int}
theorem next_ok (hk : kr ≠ ks) (hw : wl ≤ kr) (hR : (L[kr]?).join = some (rdC ks o n c at_)) (hS : (L[ks]?).join = some (.cells ⟨cs, sz, op⟩)) (hx : Bys cs o xs) (hn : xs.length = n) (hb : n ≤ 1000000) (hat : at_ < n) :
    Fc Tryd.prog 106 [.pointer (some ⟨kr,0,none⟩)] (Hp wl L) (.int .u8 (nth xs at_)) (Hp wl (L.set kr (some (rdC ks o n c (at_ + 1))))):=by
 refine Fc.introX fn106 (by simp) (fun _=>grow_hq (by simp) (set_take hw)) ?_; simp only [argF]
 have hl:=get_lt' hR
 have hg:=hx at_ (by omega)
 have ha1:((at_:Int) + 1) = ((at_ + 1:Nat):Int):=by omega
 have ha2:(((at_ + 1:Nat):Int) - 1) = ((at_:Nat):Int):=by omega
 refine ITri.seq ?_
 refine ITri.reg pok ?_; simp -implicitDefEqProofs (disch:=first|decide|exact of_eq_true (eq_true rfl)|omega|assumption) only [↓vcD,vcE,↓vcG,vcF,evs,evP,evB,intsOf,fillC,Value.cells,pt,Value.oneCell',reduceIte,reduceCtorEq,Nat.reduceEqDiff,Nat.reduceAdd,Nat.reduceMul,Nat.reduceLT,Nat.reduceBEq,Nat.reduceLeDiff,Nat.reduceSub]
 refine ITri.seq ?_
 refine ITri.seq ?_
 refine ITri.draw pok ?_; simp -implicitDefEqProofs (disch:=first|decide|exact of_eq_true (eq_true rfl)|omega|assumption) only [hR, ↓vcD,vcE,↓vcG,vcF,evs,evP,evB,intsOf,fillC,Value.cells,pt,Value.oneCell',reduceIte,reduceCtorEq,Nat.reduceEqDiff,Nat.reduceAdd,Nat.reduceMul,Nat.reduceLT,Nat.reduceBEq,Nat.reduceLeDiff,Nat.reduceSub]
 refine ITri.condD (by rfl) (fun h1=>?_) (fun h1=>?_)
 ·omega
 refine ITri.skip ?_; simp only [SeqQ_normal,BlkQ_normal]
 refine ITri.seq ?_
 refine ITri.reg pok ?_; simp -implicitDefEqProofs (disch:=first|decide|exact of_eq_true (eq_true rfl)|omega|assumption) only [hR,ha1, ↓vcD,vcE,↓vcG,vcF,evs,evP,evB,intsOf,fillC,Value.cells,pt,Value.oneCell',reduceIte,reduceCtorEq,Nat.reduceEqDiff,Nat.reduceAdd,Nat.reduceMul,Nat.reduceLT,Nat.reduceBEq,Nat.reduceLeDiff,Nat.reduceSub]
 refine ITri.seq ?_
 refine ITri.draw pok ?_; simp -implicitDefEqProofs (disch:=first|decide|exact of_eq_true (eq_true rfl)|omega|assumption) only [set_hit,set_ne,hl,hk,hS,hg,ha2, ↓vcD,vcE,↓vcG,vcF,evs,evP,evB,intsOf,fillC,Value.cells,pt,Value.oneCell',reduceIte,reduceCtorEq,Nat.reduceEqDiff,Nat.reduceAdd,Nat.reduceMul,Nat.reduceLT,Nat.reduceBEq,Nat.reduceLeDiff,Nat.reduceSub]
 refine ITri.ret ?_; exact EndX.mk (by simp) (by rfl) (by rfl) (by rfl)
theorem next_cut (hR : (L[kr]?).join = some (rdC ks o n c at_)) (hb : n ≤ 1000000) (hat : n ≤ at_) (ha : at_ ≤ 2000000) :
    Fp Tryd.prog 106 [.pointer (some ⟨kr,0,none⟩)] (Hp wl L) (errV 60) (Hp wl L):=by
 refine Fp.introX fn106 (by simp) (fun _=>Grow.refl _) ?_; simp only [argF]
 refine ITri.seq ?_
 refine ITri.reg pok ?_; simp -implicitDefEqProofs (disch:=first|decide|exact of_eq_true (eq_true rfl)|omega|assumption) only [↓vcD,vcE,↓vcG,vcF,evs,evP,evB,intsOf,fillC,Value.cells,pt,Value.oneCell',reduceIte,reduceCtorEq,Nat.reduceEqDiff,Nat.reduceAdd,Nat.reduceMul,Nat.reduceLT,Nat.reduceBEq,Nat.reduceLeDiff,Nat.reduceSub]
 refine ITri.seq ?_
 refine ITri.seq ?_
 refine ITri.draw pok ?_; simp -implicitDefEqProofs (disch:=first|decide|exact of_eq_true (eq_true rfl)|omega|assumption) only [hR, ↓vcD,vcE,↓vcG,vcF,evs,evP,evB,intsOf,fillC,Value.cells,pt,Value.oneCell',reduceIte,reduceCtorEq,Nat.reduceEqDiff,Nat.reduceAdd,Nat.reduceMul,Nat.reduceLT,Nat.reduceBEq,Nat.reduceLeDiff,Nat.reduceSub]
 refine ITri.condD (by rfl) (fun h1=>?_) (fun h1=>?_)
 ·refine ITri.panE pok (mkE _) ?_
  simp only [SeqQ_pan,BlkQ_pan,LoopQ_pan,CutQ_pan]
  exact EndP.mk rfl
 omega
end
def nG (xs:List Int) (at_:Nat):Nat→Int
 | 0=>0
 | i + 1=>nG xs at_ i * 128 + nth xs (at_ + i) % 128
theorem nG_bd {xs:List Int} {at_:Nat} : ∀ i,0≤nG xs at_ i∧nG xs at_ i < (128:Int) ^ i
 | 0=>⟨Int.le_refl _,by simp [nG]⟩
 | i + 1=>by
  obtain ⟨h1,h2⟩:=nG_bd (xs:=xs) (at_:=at_) i
  rw [nG,Int.pow_succ]
  have:=Int.emod_nonneg (nth xs (at_ + i)) (show (128:Int)≠0 by decide)
  have:=Int.emod_lt_of_pos (nth xs (at_ + i)) (show (0:Int) < 128 by decide)
  omega
theorem nG_8 {xs:List Int} {at_ i:Nat} (hi:i≤8):0≤nG xs at_ i∧nG xs at_ i < 72057594037927936:=by
 obtain ⟨h1,h2⟩:=nG_bd (xs:=xs) (at_:=at_) i
 refine ⟨h1,Int.lt_of_lt_of_le h2 ?_⟩
 have:i = 0∨i = 1∨i = 2∨i = 3∨i = 4∨i = 5∨i = 6∨i = 7∨i = 8:=by omega
 rcases this with rfl|rfl|rfl|rfl|rfl|rfl|rfl|rfl|rfl <;> decide
inductive NR where
 | ok (n:Int) (nx:Nat)
 | err (e:Int) (nx:Nat)
def numG (xs:List Int) (most:Int) (at_:Nat):Nat→Nat→NR
 | 0,i=>.err 3 (at_ + i)
 | k + 1,i=>if xs.length≤at_ + i then .err 60 (at_ + i) else if i = 0∧nth xs at_ = 128 then .err 61 (at_ + i + 1)
  else if nth xs (at_ + i) < 128 then (if most < nG xs at_ (i + 1) then .err 3 (at_ + i + 1) else .ok (nG xs at_ (i + 1)) (at_ + i + 1)) else numG xs most at_ k (i + 1)
def NumQ (rs:List ResultVar) (wl kr ks o n c:Nat) (L:List (Option AObj)) (R:NR) (e:AEx) (l:Fr) (ms:List Nat) (h:AH):Prop:=match R with
 | .ok v nx=>EndX Tryd.prog rs (.int .i64 v) (Hp wl (L.set kr (some (rdC ks o n c nx)))) e l ms h
 | .err er nx=>EndP (errV er) (Hp wl (L.set kr (some (rdC ks o n c nx)))) e l ms h
section
variable {wl kr ks o n c at_ sz:Nat} {op:Bool} {L:List (Option AObj)} {cs:List Value} {xs:List Int} {most:Int}
theorem number_t (hk : kr ≠ ks) (hw : wl ≤ kr) (hR : (L[kr]?).join = some (rdC ks o n c at_)) (hS : (L[ks]?).join = some (.cells ⟨cs, sz, op⟩)) (hx : Bys cs o xs) (hB : isB xs) (hn : xs.length = n) (hb : n ≤ 1000000) (hat : at_ ≤ n) :
    ITri Tryd.prog 35 none L.length ir96 (argF 0 [.pointer (some ⟨kr,0,none⟩),.int .i64 most]) [] (Hp wl L) (NumQ [.tmp 4] wl kr ks o n c L (numG xs most at_ 9 0)):=by
 simp only [argF]
 have hl:=get_lt' hR
 refine ITri.seq ?_
 refine ITri.reg pok ?_; simp -implicitDefEqProofs (disch:=first|decide|exact of_eq_true (eq_true rfl)|omega|assumption) only [↓vcD,vcE,↓vcG,vcF,evs,evP,evB,intsOf,fillC,Value.cells,pt,Value.oneCell',reduceIte,reduceCtorEq,Nat.reduceEqDiff,Nat.reduceAdd,Nat.reduceMul,Nat.reduceLT,Nat.reduceBEq,Nat.reduceLeDiff,Nat.reduceSub]
 refine ITri.seq ?_
 refine ITri.reg pok ?_; simp -implicitDefEqProofs (disch:=first|decide|exact of_eq_true (eq_true rfl)|omega|assumption) only [↓vcD,vcE,↓vcG,vcF,evs,evP,evB,intsOf,fillC,Value.cells,pt,Value.oneCell',reduceIte,reduceCtorEq,Nat.reduceEqDiff,Nat.reduceAdd,Nat.reduceMul,Nat.reduceLT,Nat.reduceBEq,Nat.reduceLeDiff,Nat.reduceSub]
 refine ITri.seq ?_
 refine ITri.seq ?_
 refine ITri.reg pok ?_; simp -implicitDefEqProofs (disch:=first|decide|exact of_eq_true (eq_true rfl)|omega|assumption) only [↓vcD,vcE,↓vcG,vcF,evs,evP,evB,intsOf,fillC,Value.cells,pt,Value.oneCell',reduceIte,reduceCtorEq,Nat.reduceEqDiff,Nat.reduceAdd,Nat.reduceMul,Nat.reduceLT,Nat.reduceBEq,Nat.reduceLeDiff,Nat.reduceSub]
 have e0:L.set kr (some (rdC ks o n c (at_ + 0))) = L:=set_same' hR
 obtain ⟨R,eR⟩ : ∃ R,R = numG xs most at_ (9 - 0) 0:=⟨_,rfl⟩
 rw [show numG xs most at_ 9 0 = R from eR.symm]
 refine ITri.block ?_
 refine ITri.loop (fun i:Nat=>[(0,.pointer (some ⟨kr,0,none⟩)),(1,.int .i64 most),(4,.int .i64 0),(5,.int .i64 (nG xs at_ i)),(8,.int .i64 i)]) (fun _=>[]) (fun i=>Hp wl (L.set kr (some (rdC ks o n c (at_ + i))))) (fun i=>i≤9∧R = numG xs most at_ (9 - i) i) (fun i=>9 - i) 0 ⟨by omega,eR⟩ (by simp only [e0]; exact Wk.sub ⟨rfl,rfl,rfl,rfl,rfl,trivial⟩) fun i hi=>?_
 obtain ⟨hi,hJ⟩:=hi
 refine ITri.seq ?_
 refine ITri.reg pok ?_; simp -implicitDefEqProofs (disch:=first|decide|exact of_eq_true (eq_true rfl)|omega|assumption) only [↓vcD,vcE,↓vcG,vcF,evs,evP,evB,intsOf,fillC,Value.cells,pt,Value.oneCell',reduceIte,reduceCtorEq,Nat.reduceEqDiff,Nat.reduceAdd,Nat.reduceMul,Nat.reduceLT,Nat.reduceBEq,Nat.reduceLeDiff,Nat.reduceSub]
 refine ITri.seq ?_
 refine ITri.condD (by rfl) (fun h2=>?_) (fun h2=>?_)
 ·have h2' : i < 9:=by omega
  rw [show 9 - i = (8 - i) + 1 by omega,numG] at hJ
  refine ITri.skip ?_; simp only [SeqQ_normal,BlkQ_normal]
  refine ITri.seq ?_
  refine ITri.block ?_
  refine ITri.seq ?_
  refine ITri.reg pok ?_; simp -implicitDefEqProofs (disch:=first|decide|exact of_eq_true (eq_true rfl)|omega|assumption) only [↓vcD,vcE,↓vcG,vcF,evs,evP,evB,intsOf,fillC,Value.cells,pt,Value.oneCell',reduceIte,reduceCtorEq,Nat.reduceEqDiff,Nat.reduceAdd,Nat.reduceMul,Nat.reduceLT,Nat.reduceBEq,Nat.reduceLeDiff,Nat.reduceSub]
  refine ITri.seq ?_
  have hR' : ((L.set kr (some (rdC ks o n c (at_ + i))))[kr]?).join = some (rdC ks o n c (at_ + i)):=set_hit hl
  have hS' : ((L.set kr (some (rdC ks o n c (at_ + i))))[ks]?).join = some (.cells ⟨cs,sz,op⟩):=by rw [set_ne hk]; exact hS
  by_cases g1:xs.length≤at_ + i
  ·rw [if_pos g1] at hJ
   refine ITri.regP 1 pok ?_; simp -implicitDefEqProofs (disch:=first|decide|exact of_eq_true (eq_true rfl)|omega|assumption) only [ iRowP_s,iRowP_0,iRowP_on,iRowP_off,iRowP_un,iStepP_call, ↓vcD,vcE,↓vcG,vcF,evs,evP,evB,intsOf,fillC,Value.cells,pt,Value.oneCell',reduceIte,reduceCtorEq,Nat.reduceEqDiff,Nat.reduceAdd,Nat.reduceMul,Nat.reduceLT,Nat.reduceBEq,Nat.reduceLeDiff,Nat.reduceSub]
   refine ⟨_,_,next_cut hR' hb (by omega) (by omega),?_⟩
   simp only [SeqQ_pan,BlkQ_pan,LoopQ_pan,CutQ_pan]
   rw [hJ]
   exact ⟨rfl,rfl,rfl⟩
  rw [if_neg g1] at hJ
  refine ITri.reg pok ?_; simp -implicitDefEqProofs (disch:=first|decide|exact of_eq_true (eq_true rfl)|omega|assumption) only [↓vcD,vcE,↓vcG,vcF,evs,evP,evB,intsOf,fillC,Value.cells,pt,Value.oneCell',reduceIte,reduceCtorEq,Nat.reduceEqDiff,Nat.reduceAdd,Nat.reduceMul,Nat.reduceLT,Nat.reduceBEq,Nat.reduceLeDiff,Nat.reduceSub]
  refine ⟨_,_,next_ok hk hw hR' hS' hx hn hb (by omega),?_⟩
  simp -implicitDefEqProofs (disch:=first|decide|exact of_eq_true (eq_true rfl)|omega|assumption) only [set_set',Nat.add_assoc, ↓vcD,vcE,↓vcG,vcF,evs,evP,evB,intsOf,fillC,Value.cells,pt,Value.oneCell',reduceIte,reduceCtorEq,Nat.reduceEqDiff,Nat.reduceAdd,Nat.reduceMul,Nat.reduceLT,Nat.reduceBEq,Nat.reduceLeDiff,Nat.reduceSub]
  have hc:=hB _ (nth_mem (show at_ + i < xs.length by omega))
  refine ITri.seq ?_
  refine ITri.seq ?_
  have hg:=nG_8 (xs:=xs) (at_:=at_) (i:=i) (by omega)
  by_cases g2:i = 0∧nth xs at_ = 128
  ·rw [if_pos g2] at hJ
   obtain ⟨rfl,g2⟩:=g2
   refine ITri.reg pok ?_; simp -implicitDefEqProofs (disch:=first|decide|exact of_eq_true (eq_true rfl)|omega|assumption) only [g2,z00,decide_true, ↓vcD,vcE,↓vcG,vcF,evs,evP,evB,intsOf,fillC,Value.cells,pt,Value.oneCell',reduceIte,reduceCtorEq,Nat.reduceEqDiff,Nat.reduceAdd,Nat.reduceMul,Nat.reduceLT,Nat.reduceBEq,Nat.reduceLeDiff,Nat.reduceSub]
   refine ITri.cond (v:=true) rfl (fun _=>?_) (fun h=>by cases h)
   refine ITri.panE pok (mkE _) ?_
   simp only [SeqQ_pan,BlkQ_pan,LoopQ_pan,CutQ_pan]
   rw [hJ]
   exact ⟨rfl,rfl,rfl⟩
  rw [if_neg g2] at hJ
  refine ITri.one [(0,.pointer (some ⟨kr,0,none⟩)),(1,.int .i64 most),(4,.int .i64 0),(5,.int .i64 (nG xs at_ i)),(7,.int .u8 (nth xs (at_ + i))),(8,.int .i64 i),(18,.bool false)] ?_ ?_
  ·by_cases g3:i = 0
   ·subst g3
    have g4 : ¬ nth xs at_ = 128:=fun e=>g2 ⟨rfl,e⟩
    refine ITri.reg pok ?_; simp -implicitDefEqProofs (disch:=first|decide|exact of_eq_true (eq_true rfl)|omega|assumption) only [g4,z00,decide_true,decide_false, ↓vcD,vcE,↓vcG,vcF,evs,evP,evB,intsOf,fillC,Value.cells,pt,Value.oneCell',reduceIte,reduceCtorEq,Nat.reduceEqDiff,Nat.reduceAdd,Nat.reduceMul,Nat.reduceLT,Nat.reduceBEq,Nat.reduceLeDiff,Nat.reduceSub]
   ·have g3' : ¬ (i:Int) = 0:=by omega
    refine ITri.reg pok ?_; simp -implicitDefEqProofs (disch:=first|decide|exact of_eq_true (eq_true rfl)|omega|assumption) only [g3',decide_false, ↓vcD,vcE,↓vcG,vcF,evs,evP,evB,intsOf,fillC,Value.cells,pt,Value.oneCell',reduceIte,reduceCtorEq,Nat.reduceEqDiff,Nat.reduceAdd,Nat.reduceMul,Nat.reduceLT,Nat.reduceBEq,Nat.reduceLeDiff,Nat.reduceSub]
  refine ITri.cond (v:=false) rfl (fun h=>by cases h) (fun _=>?_); refine ITri.skip ?_; simp only [SeqQ_normal,BlkQ_normal]
  have f1:=shl7 hg.1 hg.2
  have f2:=and127 hc.1 hc.2
  have f3:btI .or .i64 (nG xs at_ i * 128) (nth xs (at_ + i) % 128) = nG xs at_ (i + 1):=or7 hg.1 hg.2 (by omega) (by omega)
  refine ITri.seq ?_
  refine ITri.reg pok ?_; simp -implicitDefEqProofs (disch:=first|decide|exact of_eq_true (eq_true rfl)|omega|assumption) only [f1,f2,f3, ↓vcD,vcE,↓vcG,vcF,evs,evP,evB,intsOf,fillC,Value.cells,pt,Value.oneCell',reduceIte,reduceCtorEq,Nat.reduceEqDiff,Nat.reduceAdd,Nat.reduceMul,Nat.reduceLT,Nat.reduceBEq,Nat.reduceLeDiff,Nat.reduceSub]
  refine ITri.seq ?_
  refine ITri.reg pok ?_; simp -implicitDefEqProofs (disch:=first|decide|exact of_eq_true (eq_true rfl)|omega|assumption) only [↓vcD,vcE,↓vcG,vcF,evs,evP,evB,intsOf,fillC,Value.cells,pt,Value.oneCell',reduceIte,reduceCtorEq,Nat.reduceEqDiff,Nat.reduceAdd,Nat.reduceMul,Nat.reduceLT,Nat.reduceBEq,Nat.reduceLeDiff,Nat.reduceSub]
  refine ITri.condD (by rfl) (fun h4=>?_) (fun h4=>?_)
  ·rw [if_pos h4] at hJ
   refine ITri.seq ?_
   refine ITri.seq ?_
   refine ITri.reg pok ?_; simp -implicitDefEqProofs (disch:=first|decide|exact of_eq_true (eq_true rfl)|omega|assumption) only [↓vcD,vcE,↓vcG,vcF,evs,evP,evB,intsOf,fillC,Value.cells,pt,Value.oneCell',reduceIte,reduceCtorEq,Nat.reduceEqDiff,Nat.reduceAdd,Nat.reduceMul,Nat.reduceLT,Nat.reduceBEq,Nat.reduceLeDiff,Nat.reduceSub]
   refine ITri.condD (by rfl) (fun h5=>?_) (fun h5=>?_)
   ·rw [if_pos h5] at hJ
    refine ITri.panE pok (mkE _) ?_
    simp only [SeqQ_pan,BlkQ_pan,LoopQ_pan,CutQ_pan]
    rw [hJ]
    exact ⟨rfl,rfl,rfl⟩
   rw [if_neg h5] at hJ
   refine ITri.skip ?_; simp only [SeqQ_normal,BlkQ_normal]
   refine ITri.seq ?_
   refine ITri.reg pok ?_; simp -implicitDefEqProofs (disch:=first|decide|exact of_eq_true (eq_true rfl)|omega|assumption) only [↓vcD,vcE,↓vcG,vcF,evs,evP,evB,intsOf,fillC,Value.cells,pt,Value.oneCell',reduceIte,reduceCtorEq,Nat.reduceEqDiff,Nat.reduceAdd,Nat.reduceMul,Nat.reduceLT,Nat.reduceBEq,Nat.reduceLeDiff,Nat.reduceSub]
   refine ITri.ret ?_
   simp only [SeqQ_ret,BlkQ_ret,LoopQ_ret]
   rw [hJ]
   exact EndX.mk (by simp) (by rfl) (by rfl) (by rfl)
  rw [if_neg h4] at hJ
  have hi1:((i:Int) + 1) = ((i + 1:Nat):Int):=by omega
  refine ITri.skip ?_; simp only [SeqQ_normal,BlkQ_normal]
  refine ITri.reg pok ?_; simp -implicitDefEqProofs (disch:=first|decide|exact of_eq_true (eq_true rfl)|omega|assumption) only [hi1, ↓vcD,vcE,↓vcG,vcF,evs,evP,evB,intsOf,fillC,Value.cells,pt,Value.oneCell',reduceIte,reduceCtorEq,Nat.reduceEqDiff,Nat.reduceAdd,Nat.reduceMul,Nat.reduceLT,Nat.reduceBEq,Nat.reduceLeDiff,Nat.reduceSub]
  exact LoopQ.next (i + 1) ⟨by omega,by rw [hJ]; congr 1; omega⟩ (by omega) (Wk.sub ⟨rfl,rfl,rfl,rfl,rfl,trivial⟩)
 refine ITri.exit ?_; try simp -implicitDefEqProofs (disch:=first|decide|exact of_eq_true (eq_true rfl)|omega|assumption) only [↓vcD,vcE,↓vcG,vcF,evs,evP,evB,intsOf,fillC,Value.cells,pt,Value.oneCell',reduceIte,reduceCtorEq,Nat.reduceEqDiff,Nat.reduceAdd,Nat.reduceMul,Nat.reduceLT,Nat.reduceBEq,Nat.reduceLeDiff,Nat.reduceSub]
 obtain rfl:i = 9:=by omega
 refine ITri.panE pok (mkE _) ?_
 rw [hJ]
 exact ⟨rfl,rfl,rfl⟩
theorem number_ok {v : Int} {nx : Nat} (hr : numG xs most at_ 9 0 = .ok v nx) (hk : kr ≠ ks) (hw : wl ≤ kr) (hR : (L[kr]?).join = some (rdC ks o n c at_)) (hS : (L[ks]?).join = some (.cells ⟨cs, sz, op⟩)) (hx : Bys cs o xs) (hB : isB xs) (hn : xs.length = n) (hb : n ≤ 1000000) (hat : at_ ≤ n) :
    Fc Tryd.prog 96 [.pointer (some ⟨kr,0,none⟩),.int .i64 most] (Hp wl L) (.int .i64 v) (Hp wl (L.set kr (some (rdC ks o n c nx)))):=by
 have T:=number_t (most:=most) hk hw hR hS hx hB hn hb hat
 rw [hr] at T
 exact Fc.introX fn96 (by simp) (fun _=>grow_hq (by simp) (set_take hw)) T
theorem number_err {e : Int} {nx : Nat} (hr : numG xs most at_ 9 0 = .err e nx) (hk : kr ≠ ks) (hw : wl ≤ kr) (hR : (L[kr]?).join = some (rdC ks o n c at_)) (hS : (L[ks]?).join = some (.cells ⟨cs, sz, op⟩)) (hx : Bys cs o xs) (hB : isB xs) (hn : xs.length = n) (hb : n ≤ 1000000) (hat : at_ ≤ n) :
    Fp Tryd.prog 96 [.pointer (some ⟨kr,0,none⟩),.int .i64 most] (Hp wl L) (errV e) (Hp wl (L.set kr (some (rdC ks o n c nx)))):=by
 have T:=number_t (most:=most) hk hw hR hS hx hB hn hb hat
 rw [hr] at T
 exact Fp.introX fn96 (by simp) (fun _=>grow_hq (by simp) (set_take hw)) T
theorem and1 {a:Int} (h0:0≤a) (h1:a < 9223372036854775808):btI .and .i64 a 1 = a % 2:=by
 obtain ⟨n,rfl⟩:=Int.eq_ofNat_of_zero_le h0
 show IntKind.i64.wrap _ = _
 rw [show IntKind.i64.bits = 64 from rfl,show (1:Int) = ((1:Nat):Int) from rfl,BitVec.ofInt_natCast,BitVec.ofInt_natCast,BitVec.toNat_and,BitVec.toNat_ofNat,BitVec.toNat_ofNat]
 have:n % 2 ^ 64 &&& 1 % 2 ^ 64 = n % 2:=by
  rw [Nat.mod_eq_of_lt (by omega:n < 2 ^ 64),show 1 % 2 ^ 64 = 2 ^ 1 - 1 from rfl,Nat.and_two_pow_sub_one_eq_mod]
 rw [this,wrap_nat (by omega)]
 omega
theorem numG_bd {v:Int} {nx:Nat} : ∀ k i,i + k≤9→numG xs most at_ k i = .ok v nx→0≤v∧v≤most∧v < 9223372036854775808∧nx≤xs.length∧at_ < nx
 | 0,i,_,h=>by cases h
 | k + 1,i,hi,h=>by
  rw [numG] at h
  split at h
  ·cases h
  split at h
  ·cases h
  split at h
  ·split at h
   ·cases h
   ·injection h with h1 h2
    subst h1 h2
    obtain ⟨b1,b2⟩:=nG_8 (xs:=xs) (at_:=at_) (i:=i) (by omega)
    rename_i q1 _ q3 q2
    have b3:=Int.emod_nonneg (nth xs (at_ + i)) (show (128:Int)≠0 by decide)
    have b4:=Int.emod_lt_of_pos (nth xs (at_ + i)) (show (0:Int) < 128 by decide)
    have e:nG xs at_ (i + 1) = nG xs at_ i * 128 + nth xs (at_ + i) % 128:=rfl
    omega
  ·exact numG_bd k (i + 1) (by omega) h
end
end Go.Proofs.YtgjokhodccacoaaDoor
