import Derived.Test.YtgjokhodccacoaaDoorSRecG0
import Derived.Test.YtgjokhodccacoaaDoorSRecN2
set_option linter.unusedSimpArgs false
set_option linter.unusedVariables false
namespace Go.Proofs.YtgjokhodccacoaaDoor
open Go.RowKit Go.Vm
set_option maxRecDepth 100000
theorem i_u8:Tryd.prog.info? 5 = some ((Tryd.prog.info? 5).get rfl):=by kernel_rfl
theorem idx0 (x y:Int):aIndex Tryd.prog 92 (.agg #[.int .u8 x,.int .u8 y]) (.int .i64 0) = some (.int .u8 x):=by kernel_rfl
theorem idx1 (x y:Int):aIndex Tryd.prog 92 (.agg #[.int .u8 x,.int .u8 y]) (.int .i64 1) = some (.int .u8 y):=by kernel_rfl
theorem gen_idx2 {w : Bool} {a i : Nat} {l : Fr} {h : AH} {K : Value → AH → Prop} {x y : Int} {j : Nat} (ha : lk l a = some (.agg #[.int .u8 x, .int .u8 y])) (hi : lk l i = some (.int .i64 j)) (hj : j < 2) (q : K (.int .u8 (if j = 0 then x else y)) h) :
    iStep Tryd.prog w (.gen (.index 92 (.tmp a) (.tmp i))) l h K:=by
 refine ⟨_,_,?_,q⟩
 have e1:aEnv (trOf l) (.tmp a) = some (.agg #[.int .u8 x,.int .u8 y]):=by simp only [aEnv,trOf_get,ha]
 have e2:aEnv (trOf l) (.tmp i) = some (.int .i64 j):=by simp only [aEnv,trOf_get,hi]
 have e3:aIndex Tryd.prog 92 (.agg #[.int .u8 x,.int .u8 y]) (.int .i64 j) = some (.int .u8 (if j = 0 then x else y)):=by
  match j,hj with
  | 0,_=>exact idx0 x y
  | 1,_=>exact idx1 x y
 simp only [aOp,e1,e2,e3]
def ir21_r0:IC:=.reg [⟨some 2,none,false,.mv (.k (.int .i64 0))⟩] (some [0])
def ir21_r1:IC:=.reg [⟨some 3,none,false,.mv (.k (.int .i64 65535))⟩] (some [0,3])
def ir21_r2:IC:=.reg [⟨some 8,none,false,.mv (.t 0)⟩,
 ⟨some 9,none,false,.len (.t 8)⟩,
 ⟨some 10,none,false,.mv (.k (.int .i64 0))⟩] (some [3,8,9,10])
def ir21_r3:IC:=.reg [⟨some 11,none,false,.cmp .lss (.t 10) (.t 9)⟩] (some [3,8,9,10,11])
def ir21_1:IC:=.cond (.t 11) .skip (.exit 0)
def ir21_r4:IC:=.reg [⟨some 12,none,false,.iad 1 (.t 8) (.t 10)⟩,
 ⟨some 13,none,false,.ldc (.t 12)⟩,
 ⟨some 5,none,false,.mv (.t 13)⟩] (some [3,5,8,9,10])
def ir21_r5:IC:=.reg [⟨some 14,none,false,.mv (.t 5)⟩,
 ⟨some 15,none,false,.shf .shr (.t 14) (.k (.int .u64 4))⟩,
 ⟨some 16,none,false,.mv (.t 5)⟩,
 ⟨some 17,none,false,.bits .and (.t 16) (.k (.int .u8 15))⟩,
 ⟨some 18,none,false,.bld [(.int .u8 0),(.int .u8 0)] [(0,1,(.t 15)),(1,1,(.t 17))]⟩,
 ⟨some 19,none,false,.mv (.k (.int .i64 0))⟩] (some [3,8,9,10,18,19])
def ir21_r6:IC:=.reg [⟨some 20,none,false,.cmp .lss (.t 19) (.k (.int .i64 2))⟩] (some [3,8,9,10,18,19,20])
def ir21_2:IC:=.cond (.t 20) .skip (.exit 2)
def ir21_r7:IC:=.reg [⟨some 21,none,false,.gen (.index 92 (.tmp 18) (.tmp 19))⟩,
 ⟨some 7,none,false,.mv (.t 21)⟩] (some [3,7,8,9,10,18,19])
def ir21_r8:IC:=.reg [⟨some 22,none,false,.mv (.t 3)⟩,
 ⟨some 23,none,false,.shf .shl (.t 22) (.k (.int .u64 4))⟩,
 ⟨some 24,none,false,.bits .and (.t 23) (.k (.int .i64 65535))⟩,
 ⟨some 25,none,false,.mv (.t 3)⟩,
 ⟨some 26,none,false,.shf .shr (.t 25) (.k (.int .u64 12))⟩,
 ⟨some 27,none,false,.mv (.t 7)⟩,
 ⟨some 28,none,false,.conv .i64 (.t 27)⟩,
 ⟨some 29,none,false,.bits .xor (.t 26) (.t 28)⟩,
 ⟨some 30,none,false,.iada 16 1 (.k (.chan (some 0))) (.t 29)⟩,
 ⟨some 31,none,false,.ldc (.t 30)⟩,
 ⟨some 32,none,false,.bits .xor (.t 24) (.t 31)⟩,
 ⟨some 3,none,false,.mv (.t 32)⟩] (some [3,8,9,10,18,19])
def ir21_3:IC:=.seq ir21_r7 ir21_r8
def ir21_4:IC:=.block 3 ir21_3
def ir21_r9:IC:=.reg [⟨some 33,none,false,.ar .add (.t 19) (.k (.int .i64 1))⟩,
 ⟨some 19,none,false,.mv (.t 33)⟩] (some [3,8,9,10,18,19])
def ir21_5:IC:=.seq ir21_4 ir21_r9
def ir21_6:IC:=.seq ir21_2 ir21_5
def ir21_7:IC:=.seq ir21_r6 ir21_6
def ir21_8:IC:=.loop ir21_7
def ir21_9:IC:=.block 2 ir21_8
def ir21_10:IC:=.seq ir21_r5 ir21_9
def ir21_11:IC:=.seq ir21_r4 ir21_10
def ir21_12:IC:=.block 1 ir21_11
def ir21_r10:IC:=.reg [⟨some 34,none,false,.ar .add (.t 10) (.k (.int .i64 1))⟩,
 ⟨some 10,none,false,.mv (.t 34)⟩] (some [3,8,9,10])
def ir21_13:IC:=.seq ir21_12 ir21_r10
def ir21_14:IC:=.seq ir21_1 ir21_13
def ir21_15:IC:=.seq ir21_r3 ir21_14
def ir21_16:IC:=.loop ir21_15
def ir21_17:IC:=.block 0 ir21_16
def ir21_18:IC:=.seq ir21_r2 ir21_17
def ir21_r11:IC:=.reg [⟨some 35,none,false,.mv (.t 3)⟩,
 ⟨some 2,none,false,.mv (.t 35)⟩] (some [2])
def ir21_19:IC:=.seq ir21_r11 .ret
def ir21_20:IC:=.seq ir21_18 ir21_19
def ir21_21:IC:=.seq ir21_r1 ir21_20
def ir21_22:IC:=.seq ir21_r0 ir21_21
def ir21:IC:=ir21_22
theorem fn21:FnIs Tryd.prog 21 ir21 36 [.tmp 2]:=⟨Tryd.f21,Tryd.f21.body.getD .skip,Tryd.func21,by kernel_rfl,by kernel_rfl,by kernel_rfl,by kernel_rfl⟩
def ir24_r0:IC:=.reg [⟨some 2,none,false,.mv (.k (.int .i64 0))⟩] (some [0])
def ir24_r1:IC:=.reg [⟨some 3,none,false,.mv (.k (.int .i64 65535))⟩] (some [0,3])
def ir24_r2:IC:=.reg [⟨some 4,none,false,.mv (.k (.int .i64 0))⟩] (some [0,3,4])
def ir24_r3:IC:=.reg [⟨some 8,none,false,.mv (.t 4)⟩,
 ⟨some 9,none,false,.mv (.t 0)⟩,
 ⟨some 10,none,false,.len (.t 9)⟩,
 ⟨some 11,none,false,.cmp .lss (.t 8) (.t 10)⟩] (some [0,3,4,11])
def ir24_1:IC:=.cond (.t 11) .skip (.exit 0)
def ir24_2:IC:=.seq ir24_r3 ir24_1
def ir24_r5:IC:=.reg [⟨some 5,none,false,.mv (.k (.int .i64 7))⟩] (some [0,3,4,5])
def ir24_r6:IC:=.reg [⟨some 14,none,false,.mv (.t 5)⟩,
 ⟨some 15,none,false,.cmp .geq (.t 14) (.k (.int .i64 0))⟩] (some [0,3,4,5,15])
def ir24_3:IC:=.cond (.t 15) .skip (.exit 2)
def ir24_4:IC:=.seq ir24_r6 ir24_3
def ir24_r8:IC:=.reg [⟨some 18,none,false,.mv (.t 0)⟩,
 ⟨some 19,none,false,.mv (.t 4)⟩,
 ⟨some 20,none,false,.iad 1 (.t 18) (.t 19)⟩,
 ⟨some 21,none,false,.ldc (.t 20)⟩,
 ⟨some 22,none,false,.conv .i64 (.t 21)⟩,
 ⟨some 23,none,false,.mv (.t 5)⟩,
 ⟨some 24,none,false,.conv .u64 (.t 23)⟩,
 ⟨some 25,none,false,.shf .shr (.t 22) (.t 24)⟩,
 ⟨some 26,none,false,.bits .and (.t 25) (.k (.int .i64 1))⟩,
 ⟨some 6,none,false,.mv (.t 26)⟩] (some [0,3,4,5,6])
def ir24_r9:IC:=.reg [⟨some 27,none,false,.mv (.t 3)⟩,
 ⟨some 28,none,false,.div .quo (.t 27) (.k (.int .i64 32768))⟩,
 ⟨some 7,none,false,.mv (.t 28)⟩] (some [0,3,4,5,6,7])
def ir24_r10:IC:=.reg [⟨some 29,none,false,.mv (.t 3)⟩,
 ⟨some 30,none,false,.ar .mul (.k (.int .i64 2)) (.t 29)⟩,
 ⟨some 31,none,false,.div .rem (.t 30) (.k (.int .i64 65536))⟩,
 ⟨some 3,none,false,.mv (.t 31)⟩] (some [0,3,4,5,6,7])
def ir24_r11:IC:=.reg [⟨some 32,none,false,.mv (.t 7)⟩,
 ⟨some 33,none,false,.mv (.t 6)⟩,
 ⟨some 34,none,false,.cmp .neq (.t 32) (.t 33)⟩] (some [0,3,4,5,34])
def ir24_r12:IC:=.reg [⟨some 35,none,false,.mv (.t 3)⟩,
 ⟨some 36,none,false,.bits .xor (.t 35) (.k (.int .i64 32773))⟩,
 ⟨some 3,none,false,.mv (.t 36)⟩] (some [0,3,4,5])
def ir24_5:IC:=.cond (.t 34) ir24_r12 .skip
def ir24_6:IC:=.seq ir24_r11 ir24_5
def ir24_7:IC:=.seq ir24_r10 ir24_6
def ir24_8:IC:=.seq ir24_r9 ir24_7
def ir24_9:IC:=.seq ir24_r8 ir24_8
def ir24_10:IC:=.block 3 ir24_9
def ir24_r7:IC:=.reg [⟨some 16,none,false,.mv (.t 5)⟩,
 ⟨some 17,none,false,.ar .sub (.t 16) (.k (.int .i64 1))⟩,
 ⟨some 5,none,false,.mv (.t 17)⟩] (some [0,3,4,5])
def ir24_11:IC:=.seq ir24_10 ir24_r7
def ir24_12:IC:=.seq ir24_4 ir24_11
def ir24_13:IC:=.loop ir24_12
def ir24_14:IC:=.block 2 ir24_13
def ir24_15:IC:=.seq ir24_r5 ir24_14
def ir24_16:IC:=.block 1 ir24_15
def ir24_r4:IC:=.reg [⟨some 12,none,false,.mv (.t 4)⟩,
 ⟨some 13,none,false,.ar .add (.t 12) (.k (.int .i64 1))⟩,
 ⟨some 4,none,false,.mv (.t 13)⟩] (some [0,3,4])
def ir24_17:IC:=.seq ir24_16 ir24_r4
def ir24_18:IC:=.seq ir24_2 ir24_17
def ir24_19:IC:=.loop ir24_18
def ir24_20:IC:=.block 0 ir24_19
def ir24_21:IC:=.seq ir24_r2 ir24_20
def ir24_r13:IC:=.reg [⟨some 37,none,false,.mv (.t 3)⟩,
 ⟨some 2,none,false,.mv (.t 37)⟩] (some [2])
def ir24_22:IC:=.seq ir24_r13 .ret
def ir24_23:IC:=.seq ir24_21 ir24_22
def ir24_24:IC:=.seq ir24_r1 ir24_23
def ir24_25:IC:=.seq ir24_r0 ir24_24
def ir24:IC:=ir24_25
theorem fn24:FnIs Tryd.prog 24 ir24 38 [.tmp 2]:=⟨Tryd.f24,Tryd.f24.body.getD .skip,Tryd.func24,by kernel_rfl,by kernel_rfl,by kernel_rfl,by kernel_rfl⟩
def hf (c:Nat) (x:Nat):Nat→Nat
 | 0=>c
 | 1=>nib c (x / 16)
 | _=>nib (nib c (x / 16)) (x % 16)
theorem check_x {wl ks o n c sz : Nat} {op : Bool} {L : List (Option AObj)} {cs : List Value} {xs : List Int} (hS : (L[ks]?).join = some (.cells ⟨cs, sz, op⟩)) (hx : Bys cs o xs) (hB : isB xs) (hn : xs.length = n) (hb : n ≤ 1000000) :
    Fc Tryd.prog 21 [.slice (some ⟨ks,o,none⟩) n c] (Hp wl L) (.int .i64 (crc xs:Nat)) (Hp wl L):=by
 refine Fc.introX fn21 (by simp) (fun _=>Grow.refl _) ?_; simp only [argF]
 refine ITri.seq ?_
 refine ITri.reg pok ?_; simp -implicitDefEqProofs (disch:=first|decide|exact of_eq_true (eq_true rfl)|omega|assumption) only [↓vcD,vcE,↓vcG,vcF,evs,evP,evB,intsOf,fillC,Value.cells,pt,Value.oneCell',reduceIte,reduceCtorEq,Nat.reduceEqDiff,Nat.reduceAdd,Nat.reduceMul,Nat.reduceLT,Nat.reduceBEq,Nat.reduceLeDiff,Nat.reduceSub]
 refine ITri.seq ?_
 refine ITri.reg pok ?_; simp -implicitDefEqProofs (disch:=first|decide|exact of_eq_true (eq_true rfl)|omega|assumption) only [↓vcD,vcE,↓vcG,vcF,evs,evP,evB,intsOf,fillC,Value.cells,pt,Value.oneCell',reduceIte,reduceCtorEq,Nat.reduceEqDiff,Nat.reduceAdd,Nat.reduceMul,Nat.reduceLT,Nat.reduceBEq,Nat.reduceLeDiff,Nat.reduceSub]
 refine ITri.seq ?_
 refine ITri.seq ?_
 refine ITri.reg pok ?_; simp -implicitDefEqProofs (disch:=first|decide|exact of_eq_true (eq_true rfl)|omega|assumption) only [↓vcD,vcE,↓vcG,vcF,evs,evP,evB,intsOf,fillC,Value.cells,pt,Value.oneCell',reduceIte,reduceCtorEq,Nat.reduceEqDiff,Nat.reduceAdd,Nat.reduceMul,Nat.reduceLT,Nat.reduceBEq,Nat.reduceLeDiff,Nat.reduceSub]
 have z0:(65535:Int) = ((crcF xs 0:Nat):Int):=rfl
 rw [z0]
 refine ITri.block ?_
 refine ITri.loop (fun i:Nat=>[(3,.int .i64 (crcF xs i:Nat)),(8,.slice (some ⟨ks,o,none⟩) n c),(9,.int .i64 n),(10,.int .i64 i)]) (fun _=>[]) (fun _=>Hp wl L) (fun i=>i≤n) (fun i=>n - i) 0 (by omega) (Wk.sub ⟨rfl,rfl,rfl,rfl,trivial⟩) fun i hi=>?_
 have hc:=crc_lt (xs:=xs) i
 refine ITri.seq ?_
 refine ITri.reg pok ?_; simp -implicitDefEqProofs (disch:=first|decide|exact of_eq_true (eq_true rfl)|omega|assumption) only [↓vcD,vcE,↓vcG,vcF,evs,evP,evB,intsOf,fillC,Value.cells,pt,Value.oneCell',reduceIte,reduceCtorEq,Nat.reduceEqDiff,Nat.reduceAdd,Nat.reduceMul,Nat.reduceLT,Nat.reduceBEq,Nat.reduceLeDiff,Nat.reduceSub]
 refine ITri.seq ?_
 refine ITri.condD (by rfl) (fun h1=>?_) (fun h1=>?_)
 ·have hix:i < xs.length:=by omega
  have hg:=hx i hix
  have hv:=hB _ (nth_mem hix)
  have hnx:crcF xs (i + 1) = hf (crcF xs i) (nth xs i).toNat 2:=bc_8 (by omega) hc
  obtain ⟨x,hxx⟩:=Int.eq_ofNat_of_zero_le hv.1
  rw [hxx] at hv hg
  rw [hxx,Int.toNat_natCast] at hnx
  have hx2:x≤255:=by omega
  generalize crcF xs i = c0 at *
  have f1:shI .shr .u8 (x:Int) 4 = ((x / 16:Nat):Int):=by rw [shr4]; simp
  have f2:btI .and .u8 (x:Int) 15 = ((x % 16:Nat):Int):=by rw [and15 hv.1 hv.2]; simp
  refine ITri.skip ?_; simp only [SeqQ_normal,BlkQ_normal]
  refine ITri.seq ?_
  refine ITri.block ?_
  refine ITri.seq ?_
  refine ITri.reg pok ?_; simp -implicitDefEqProofs (disch:=first|decide|exact of_eq_true (eq_true rfl)|omega|assumption) only [hS,hg, ↓vcD,vcE,↓vcG,vcF,evs,evP,evB,intsOf,fillC,Value.cells,pt,Value.oneCell',reduceIte,reduceCtorEq,Nat.reduceEqDiff,Nat.reduceAdd,Nat.reduceMul,Nat.reduceLT,Nat.reduceBEq,Nat.reduceLeDiff,Nat.reduceSub]
  refine ITri.seq ?_
  refine ITri.reg pok ?_; simp -implicitDefEqProofs (disch:=first|decide|exact of_eq_true (eq_true rfl)|omega|assumption) only [f1,f2, ↓vcD,vcE,↓vcG,vcF,evs,evP,evB,intsOf,fillC,Value.cells,pt,Value.oneCell',reduceIte,reduceCtorEq,Nat.reduceEqDiff,Nat.reduceAdd,Nat.reduceMul,Nat.reduceLT,Nat.reduceBEq,Nat.reduceLeDiff,Nat.reduceSub]
  refine ITri.block ?_
  have q0:c0 = hf c0 x 0:=rfl
  rw [q0]
  refine ITri.loop (fun j:Nat=>[(3,.int .i64 (hf c0 x j:Nat)),(8,.slice (some ⟨ks,o,none⟩) n c),(9,.int .i64 n),(10,.int .i64 i),(18,.agg #[.int .u8 (x / 16:Nat),.int .u8 (x % 16:Nat)]),(19,.int .i64 j)]) (fun _=>[]) (fun _=>Hp wl L) (fun j=>j≤2) (fun j=>2 - j) 0 (by omega) (Wk.sub ⟨rfl,rfl,rfl,rfl,rfl,rfl,trivial⟩) fun j hj=>?_
  rw [← q0] at *
  refine ITri.seq ?_
  refine ITri.reg pok ?_; simp -implicitDefEqProofs (disch:=first|decide|exact of_eq_true (eq_true rfl)|omega|assumption) only [↓vcD,vcE,↓vcG,vcF,evs,evP,evB,intsOf,fillC,Value.cells,pt,Value.oneCell',reduceIte,reduceCtorEq,Nat.reduceEqDiff,Nat.reduceAdd,Nat.reduceMul,Nat.reduceLT,Nat.reduceBEq,Nat.reduceLeDiff,Nat.reduceSub]
  refine ITri.seq ?_
  refine ITri.condD (by rfl) (fun h2=>?_) (fun h2=>?_)
  ·have hj2:j < 2:=by omega
   have hcj:hf c0 x j < 65536:=by
    match j,hj2 with
    | 0,_=>exact hc
    | 1,_=>exact nib_lt hc (by omega)
   obtain ⟨hd,hhd,hh⟩ : ∃ hd:Nat,hd < 16∧(if j = 0 then ((x / 16:Nat):Int) else ((x % 16:Nat):Int)) = (hd:Int)∧hf c0 x (j + 1) = nib (hf c0 x j) hd:=by
    match j,hj2 with
    | 0,_=>exact ⟨x / 16,by omega,rfl,rfl⟩
    | 1,_=>exact ⟨x % 16,by omega,rfl,rfl⟩
   generalize hf c0 x j = c1 at *
   have hx12:c1 / 4096 ^^^ hd < 16:=Nat.xor_lt_two_pow (n:=4) (by omega) hhd
   have g1:=shl4 hcj
   have g2:btI .and .i64 ((c1 * 16:Nat):Int) 65535 = ((c1 * 16 % 65536:Nat):Int):=bt_and16 (by omega)
   have g3:=shr12 (a:=c1)
   have g4:btI .xor .i64 ((c1 / 4096:Nat):Int) (hd:Int) = ((c1 / 4096 ^^^ hd:Nat):Int):=bt_xor (by omega) (by omega)
   have hi16:=turns_at hx12
   have htN:tN (c1 / 4096 ^^^ hd) < 65536:=by
    have : ∀ i,i < 16→tN i < 65536:=by decide
    exact this _ hx12
   have g5:btI .xor .i64 ((c1 * 16 % 65536:Nat):Int) (tN (c1 / 4096 ^^^ hd):Int) = ((nib c1 hd:Nat):Int):=bt_xor (by omega) (by omega)
   have hj1:((j:Int) + 1) = ((j + 1:Nat):Int):=by omega
   generalize c1 / 4096 ^^^ hd = ix at *
   refine ITri.skip ?_; simp only [SeqQ_normal,BlkQ_normal]
   refine ITri.seq ?_
   refine ITri.block ?_
   refine ITri.seq ?_
   refine ITri.reg pok ?_; simp -implicitDefEqProofs (disch:=first|decide|exact of_eq_true (eq_true rfl)|omega|assumption) only [↓vcD,vcE,↓vcG,vcF,evs,evP,evB,intsOf,fillC,Value.cells,pt,Value.oneCell',reduceIte,reduceCtorEq,Nat.reduceEqDiff,Nat.reduceAdd,Nat.reduceMul,Nat.reduceLT,Nat.reduceBEq,Nat.reduceLeDiff,Nat.reduceSub]
   refine gen_idx2 rfl rfl hj2 ?_
   rw [hh.1]
   try simp -implicitDefEqProofs (disch:=first|decide|exact of_eq_true (eq_true rfl)|omega|assumption) only [↓vcD,vcE,↓vcG,vcF,evs,evP,evB,intsOf,fillC,Value.cells,pt,Value.oneCell',reduceIte,reduceCtorEq,Nat.reduceEqDiff,Nat.reduceAdd,Nat.reduceMul,Nat.reduceLT,Nat.reduceBEq,Nat.reduceLeDiff,Nat.reduceSub]
   refine ITri.reg pok ?_; simp -implicitDefEqProofs (disch:=first|decide|exact of_eq_true (eq_true rfl)|omega|assumption) only [g1,g2,g3,g4,g5,hi16, ↓vcD,vcE,↓vcG,vcF,evs,evP,evB,intsOf,fillC,Value.cells,pt,Value.oneCell',reduceIte,reduceCtorEq,Nat.reduceEqDiff,Nat.reduceAdd,Nat.reduceMul,Nat.reduceLT,Nat.reduceBEq,Nat.reduceLeDiff,Nat.reduceSub]
   refine ITri.reg pok ?_; simp -implicitDefEqProofs (disch:=first|decide|exact of_eq_true (eq_true rfl)|omega|assumption) only [hj1, ↓vcD,vcE,↓vcG,vcF,evs,evP,evB,intsOf,fillC,Value.cells,pt,Value.oneCell',reduceIte,reduceCtorEq,Nat.reduceEqDiff,Nat.reduceAdd,Nat.reduceMul,Nat.reduceLT,Nat.reduceBEq,Nat.reduceLeDiff,Nat.reduceSub]
   refine LoopQ.next (j + 1) (by omega) (by omega) ?_
   simp only [hh.2]
   exact Wk.sub ⟨rfl,rfl,rfl,rfl,rfl,rfl,trivial⟩
  refine ITri.exit ?_; try simp -implicitDefEqProofs (disch:=first|decide|exact of_eq_true (eq_true rfl)|omega|assumption) only [↓vcD,vcE,↓vcG,vcF,evs,evP,evB,intsOf,fillC,Value.cells,pt,Value.oneCell',reduceIte,reduceCtorEq,Nat.reduceEqDiff,Nat.reduceAdd,Nat.reduceMul,Nat.reduceLT,Nat.reduceBEq,Nat.reduceLeDiff,Nat.reduceSub]
  obtain rfl:j = 2:=by omega
  rw [← hnx]
  have hi1:((i:Int) + 1) = ((i + 1:Nat):Int):=by omega
  refine ITri.reg pok ?_; simp -implicitDefEqProofs (disch:=first|decide|exact of_eq_true (eq_true rfl)|omega|assumption) only [hi1, ↓vcD,vcE,↓vcG,vcF,evs,evP,evB,intsOf,fillC,Value.cells,pt,Value.oneCell',reduceIte,reduceCtorEq,Nat.reduceEqDiff,Nat.reduceAdd,Nat.reduceMul,Nat.reduceLT,Nat.reduceBEq,Nat.reduceLeDiff,Nat.reduceSub]
  exact LoopQ.next (i + 1) (by omega) (by omega) (Wk.sub ⟨rfl,rfl,rfl,rfl,trivial⟩)
 refine ITri.exit ?_; try simp -implicitDefEqProofs (disch:=first|decide|exact of_eq_true (eq_true rfl)|omega|assumption) only [↓vcD,vcE,↓vcG,vcF,evs,evP,evB,intsOf,fillC,Value.cells,pt,Value.oneCell',reduceIte,reduceCtorEq,Nat.reduceEqDiff,Nat.reduceAdd,Nat.reduceMul,Nat.reduceLT,Nat.reduceBEq,Nat.reduceLeDiff,Nat.reduceSub]
 obtain rfl:n = i:=by omega
 refine ITri.seq ?_
 refine ITri.reg pok ?_; simp -implicitDefEqProofs (disch:=first|decide|exact of_eq_true (eq_true rfl)|omega|assumption) only [↓vcD,vcE,↓vcG,vcF,evs,evP,evB,intsOf,fillC,Value.cells,pt,Value.oneCell',reduceIte,reduceCtorEq,Nat.reduceEqDiff,Nat.reduceAdd,Nat.reduceMul,Nat.reduceLT,Nat.reduceBEq,Nat.reduceLeDiff,Nat.reduceSub]
 refine ITri.ret ?_; exact EndX.mk (by simp) (by rfl) (by unfold crc; rw [hn]; rfl) (by rfl)
theorem rcheck_x {wl ks o n c sz : Nat} {op : Bool} {L : List (Option AObj)} {cs : List Value} {xs : List Int} (hS : (L[ks]?).join = some (.cells ⟨cs, sz, op⟩)) (hx : Bys cs o xs) (hB : isB xs) (hn : xs.length = n) (hb : n ≤ 1000000) :
    Fc Tryd.prog 24 [.slice (some ⟨ks,o,none⟩) n c] (Hp wl L) (.int .i64 (crc xs:Nat)) (Hp wl L):=by
 refine Fc.introX fn24 (by simp) (fun _=>Grow.refl _) ?_; simp only [argF]
 refine ITri.seq ?_
 refine ITri.reg pok ?_; simp -implicitDefEqProofs (disch:=first|decide|exact of_eq_true (eq_true rfl)|omega|assumption) only [↓vcD,vcE,↓vcG,vcF,evs,evP,evB,intsOf,fillC,Value.cells,pt,Value.oneCell',reduceIte,reduceCtorEq,Nat.reduceEqDiff,Nat.reduceAdd,Nat.reduceMul,Nat.reduceLT,Nat.reduceBEq,Nat.reduceLeDiff,Nat.reduceSub]
 refine ITri.seq ?_
 refine ITri.reg pok ?_; simp -implicitDefEqProofs (disch:=first|decide|exact of_eq_true (eq_true rfl)|omega|assumption) only [↓vcD,vcE,↓vcG,vcF,evs,evP,evB,intsOf,fillC,Value.cells,pt,Value.oneCell',reduceIte,reduceCtorEq,Nat.reduceEqDiff,Nat.reduceAdd,Nat.reduceMul,Nat.reduceLT,Nat.reduceBEq,Nat.reduceLeDiff,Nat.reduceSub]
 refine ITri.seq ?_
 refine ITri.seq ?_
 refine ITri.reg pok ?_; simp -implicitDefEqProofs (disch:=first|decide|exact of_eq_true (eq_true rfl)|omega|assumption) only [↓vcD,vcE,↓vcG,vcF,evs,evP,evB,intsOf,fillC,Value.cells,pt,Value.oneCell',reduceIte,reduceCtorEq,Nat.reduceEqDiff,Nat.reduceAdd,Nat.reduceMul,Nat.reduceLT,Nat.reduceBEq,Nat.reduceLeDiff,Nat.reduceSub]
 have z0:(65535:Int) = ((crcF xs 0:Nat):Int):=rfl
 rw [z0]
 refine ITri.block ?_
 refine ITri.loop (fun i:Nat=>[(0,.slice (some ⟨ks,o,none⟩) n c),(3,.int .i64 (crcF xs i:Nat)),(4,.int .i64 i)]) (fun _=>[]) (fun _=>Hp wl L) (fun i=>i≤n) (fun i=>n - i) 0 (by omega) (Wk.sub ⟨rfl,rfl,rfl,trivial⟩) fun i hi=>?_
 have hc:=crc_lt (xs:=xs) i
 refine ITri.seq ?_
 refine ITri.seq ?_
 refine ITri.reg pok ?_; simp -implicitDefEqProofs (disch:=first|decide|exact of_eq_true (eq_true rfl)|omega|assumption) only [↓vcD,vcE,↓vcG,vcF,evs,evP,evB,intsOf,fillC,Value.cells,pt,Value.oneCell',reduceIte,reduceCtorEq,Nat.reduceEqDiff,Nat.reduceAdd,Nat.reduceMul,Nat.reduceLT,Nat.reduceBEq,Nat.reduceLeDiff,Nat.reduceSub]
 refine ITri.condD (by rfl) (fun h1=>?_) (fun h1=>?_)
 ·have hix:i < xs.length:=by omega
  have hg:=hx i hix
  have hv:=hB _ (nth_mem hix)
  have hnx:crcF xs (i + 1) = bc (nth xs i).toNat (crcF xs i) 8:=rfl
  obtain ⟨x,hxx⟩:=Int.eq_ofNat_of_zero_le hv.1
  rw [hxx] at hv hg
  rw [hxx,Int.toNat_natCast] at hnx
  generalize crcF xs i = c0 at *
  refine ITri.skip ?_; simp only [SeqQ_normal,BlkQ_normal]
  refine ITri.seq ?_
  refine ITri.block ?_
  refine ITri.seq ?_
  refine ITri.reg pok ?_; simp -implicitDefEqProofs (disch:=first|decide|exact of_eq_true (eq_true rfl)|omega|assumption) only [↓vcD,vcE,↓vcG,vcF,evs,evP,evB,intsOf,fillC,Value.cells,pt,Value.oneCell',reduceIte,reduceCtorEq,Nat.reduceEqDiff,Nat.reduceAdd,Nat.reduceMul,Nat.reduceLT,Nat.reduceBEq,Nat.reduceLeDiff,Nat.reduceSub]
  have q0:c0 = bc x c0 0:=rfl
  have q7:(7:Int) = 7 - ((0:Nat):Int):=rfl
  rw [q0,q7]
  refine ITri.block ?_
  refine ITri.loop (fun j:Nat=>[(0,.slice (some ⟨ks,o,none⟩) n c),(3,.int .i64 (bc x c0 j:Nat)),(4,.int .i64 i),(5,.int .i64 (7 - (j:Int)))]) (fun _=>[]) (fun _=>Hp wl L) (fun j=>j≤8) (fun j=>8 - j) 0 (by omega) (Wk.sub ⟨rfl,rfl,rfl,rfl,trivial⟩) fun j hj=>?_
  rw [← q0] at *
  refine ITri.seq ?_
  refine ITri.seq ?_
  refine ITri.reg pok ?_; simp -implicitDefEqProofs (disch:=first|decide|exact of_eq_true (eq_true rfl)|omega|assumption) only [↓vcD,vcE,↓vcG,vcF,evs,evP,evB,intsOf,fillC,Value.cells,pt,Value.oneCell',reduceIte,reduceCtorEq,Nat.reduceEqDiff,Nat.reduceAdd,Nat.reduceMul,Nat.reduceLT,Nat.reduceBEq,Nat.reduceLeDiff,Nat.reduceSub]
  refine ITri.condD (by rfl) (fun h2=>?_) (fun h2=>?_)
  ·have hj7:(7 - (j:Int)) = ((7 - j:Nat):Int):=by omega
   have hcj:=bc_lt (x:=x) hc j
   have e1:bc x c0 (j + 1) = bitS (bc x c0 j) (x / 2 ^ (7 - j) % 2):=rfl
   have f1:=shrk (a:=x) (k:=7 - j) (by omega)
   have hd:x / 2 ^ (7 - j)≤x:=Nat.div_le_self _ _
   generalize x / 2 ^ (7 - j) = xd at *
   have f2:btI .and .i64 (xd:Int) 1 = ((xd % 2:Nat):Int):=by
    rw [and1 (by omega) (by omega)]
    omega
   have hk1:((7 - j:Nat):Int) - 1 = 7 - ((j + 1:Nat):Int):=by omega
   have hb2:xd % 2 < 2:=Nat.mod_lt _ (by decide)
   generalize xd % 2 = bb at *
   generalize bc x c0 j = c1 at *
   have f3:((c1:Int) / 32768) = ((c1 / 32768:Nat):Int):=by omega
   have f4:(2 * (c1:Int)) = ((2 * c1:Nat):Int):=by omega
   have f5:(((2 * c1:Nat):Int) % 65536) = ((2 * c1 % 65536:Nat):Int):=by omega
   have f6:btI .xor .i64 ((2 * c1 % 65536:Nat):Int) 32773 = ((2 * c1 % 65536 ^^^ 32773:Nat):Int):=bt_xor (by omega) (by decide)
   have hm:=Nat.mod_lt (2 * c1) (show 0 < 65536 by decide)
   refine ITri.skip ?_; simp only [SeqQ_normal,BlkQ_normal]
   refine ITri.seq ?_
   refine ITri.block ?_
   refine ITri.seq ?_
   refine ITri.reg pok ?_; simp -implicitDefEqProofs (disch:=first|decide|exact of_eq_true (eq_true rfl)|omega|assumption) only [hS,hg,hj7,f1,f2, ↓vcD,vcE,↓vcG,vcF,evs,evP,evB,intsOf,fillC,Value.cells,pt,Value.oneCell',reduceIte,reduceCtorEq,Nat.reduceEqDiff,Nat.reduceAdd,Nat.reduceMul,Nat.reduceLT,Nat.reduceBEq,Nat.reduceLeDiff,Nat.reduceSub]
   refine ITri.seq ?_
   refine ITri.reg pok ?_; simp -implicitDefEqProofs (disch:=first|decide|exact of_eq_true (eq_true rfl)|omega|assumption) only [f3, ↓vcD,vcE,↓vcG,vcF,evs,evP,evB,intsOf,fillC,Value.cells,pt,Value.oneCell',reduceIte,reduceCtorEq,Nat.reduceEqDiff,Nat.reduceAdd,Nat.reduceMul,Nat.reduceLT,Nat.reduceBEq,Nat.reduceLeDiff,Nat.reduceSub]
   refine ITri.seq ?_
   refine ITri.reg pok ?_; simp -implicitDefEqProofs (disch:=first|decide|exact of_eq_true (eq_true rfl)|omega|assumption) only [f4,f5, ↓vcD,vcE,↓vcG,vcF,evs,evP,evB,intsOf,fillC,Value.cells,pt,Value.oneCell',reduceIte,reduceCtorEq,Nat.reduceEqDiff,Nat.reduceAdd,Nat.reduceMul,Nat.reduceLT,Nat.reduceBEq,Nat.reduceLeDiff,Nat.reduceSub]
   refine ITri.seq ?_
   refine ITri.reg pok ?_; simp -implicitDefEqProofs (disch:=first|decide|exact of_eq_true (eq_true rfl)|omega|assumption) only [↓vcD,vcE,↓vcG,vcF,evs,evP,evB,intsOf,fillC,Value.cells,pt,Value.oneCell',reduceIte,reduceCtorEq,Nat.reduceEqDiff,Nat.reduceAdd,Nat.reduceMul,Nat.reduceLT,Nat.reduceBEq,Nat.reduceLeDiff,Nat.reduceSub]
   by_cases g:c1 / 32768 = bb
   ·have g' : ((c1 / 32768:Nat):Int) = (bb:Int):=by rw [g]
    have e2:bitS c1 bb = 2 * c1 % 65536:=if_neg (by omega)
    refine ITri.cond (v:=false) (by show some (Value.bool (!decide _)) = _; rw [decide_eq_true g']; rfl) (fun h=>by cases h) (fun _=>?_)
    refine ITri.skip ?_; simp only [SeqQ_normal,BlkQ_normal]
    refine ITri.reg pok ?_; simp -implicitDefEqProofs (disch:=first|decide|exact of_eq_true (eq_true rfl)|omega|assumption) only [hj7,hk1, ↓vcD,vcE,↓vcG,vcF,evs,evP,evB,intsOf,fillC,Value.cells,pt,Value.oneCell',reduceIte,reduceCtorEq,Nat.reduceEqDiff,Nat.reduceAdd,Nat.reduceMul,Nat.reduceLT,Nat.reduceBEq,Nat.reduceLeDiff,Nat.reduceSub]
    refine LoopQ.next (j + 1) (by omega) (by omega) ?_
    simp only [e1,e2]
    exact Wk.sub ⟨rfl,rfl,rfl,rfl,trivial⟩
   ·have g' : ¬ ((c1 / 32768:Nat):Int) = (bb:Int):=by omega
    have e2:bitS c1 bb = 2 * c1 % 65536 ^^^ 32773:=if_pos g
    refine ITri.cond (v:=true) (by show some (Value.bool (!decide _)) = _; rw [decide_eq_false g']; rfl) (fun _=>?_) (fun h=>by cases h)
    refine ITri.reg pok ?_; simp -implicitDefEqProofs (disch:=first|decide|exact of_eq_true (eq_true rfl)|omega|assumption) only [f6, ↓vcD,vcE,↓vcG,vcF,evs,evP,evB,intsOf,fillC,Value.cells,pt,Value.oneCell',reduceIte,reduceCtorEq,Nat.reduceEqDiff,Nat.reduceAdd,Nat.reduceMul,Nat.reduceLT,Nat.reduceBEq,Nat.reduceLeDiff,Nat.reduceSub]
    refine ITri.reg pok ?_; simp -implicitDefEqProofs (disch:=first|decide|exact of_eq_true (eq_true rfl)|omega|assumption) only [hj7,hk1, ↓vcD,vcE,↓vcG,vcF,evs,evP,evB,intsOf,fillC,Value.cells,pt,Value.oneCell',reduceIte,reduceCtorEq,Nat.reduceEqDiff,Nat.reduceAdd,Nat.reduceMul,Nat.reduceLT,Nat.reduceBEq,Nat.reduceLeDiff,Nat.reduceSub]
    refine LoopQ.next (j + 1) (by omega) (by omega) ?_
    simp only [e1,e2]
    exact Wk.sub ⟨rfl,rfl,rfl,rfl,trivial⟩
  refine ITri.exit ?_; try simp -implicitDefEqProofs (disch:=first|decide|exact of_eq_true (eq_true rfl)|omega|assumption) only [↓vcD,vcE,↓vcG,vcF,evs,evP,evB,intsOf,fillC,Value.cells,pt,Value.oneCell',reduceIte,reduceCtorEq,Nat.reduceEqDiff,Nat.reduceAdd,Nat.reduceMul,Nat.reduceLT,Nat.reduceBEq,Nat.reduceLeDiff,Nat.reduceSub]
  obtain rfl:j = 8:=by omega
  rw [← hnx]
  have hi1:((i:Int) + 1) = ((i + 1:Nat):Int):=by omega
  refine ITri.reg pok ?_; simp -implicitDefEqProofs (disch:=first|decide|exact of_eq_true (eq_true rfl)|omega|assumption) only [hi1, ↓vcD,vcE,↓vcG,vcF,evs,evP,evB,intsOf,fillC,Value.cells,pt,Value.oneCell',reduceIte,reduceCtorEq,Nat.reduceEqDiff,Nat.reduceAdd,Nat.reduceMul,Nat.reduceLT,Nat.reduceBEq,Nat.reduceLeDiff,Nat.reduceSub]
  exact LoopQ.next (i + 1) (by omega) (by omega) (Wk.sub ⟨rfl,rfl,rfl,trivial⟩)
 refine ITri.exit ?_; try simp -implicitDefEqProofs (disch:=first|decide|exact of_eq_true (eq_true rfl)|omega|assumption) only [↓vcD,vcE,↓vcG,vcF,evs,evP,evB,intsOf,fillC,Value.cells,pt,Value.oneCell',reduceIte,reduceCtorEq,Nat.reduceEqDiff,Nat.reduceAdd,Nat.reduceMul,Nat.reduceLT,Nat.reduceBEq,Nat.reduceLeDiff,Nat.reduceSub]
 obtain rfl:n = i:=by omega
 refine ITri.seq ?_
 refine ITri.reg pok ?_; simp -implicitDefEqProofs (disch:=first|decide|exact of_eq_true (eq_true rfl)|omega|assumption) only [↓vcD,vcE,↓vcG,vcF,evs,evP,evB,intsOf,fillC,Value.cells,pt,Value.oneCell',reduceIte,reduceCtorEq,Nat.reduceEqDiff,Nat.reduceAdd,Nat.reduceMul,Nat.reduceLT,Nat.reduceBEq,Nat.reduceLeDiff,Nat.reduceSub]
 refine ITri.ret ?_; exact EndX.mk (by simp) (by rfl) (by unfold crc; rw [hn]; rfl) (by rfl)
end Go.Proofs.YtgjokhodccacoaaDoor
