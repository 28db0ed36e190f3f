import Derived.Test.YtgjokhodccacoaaDoorSRecG1
set_option linter.unusedSimpArgs false
set_option linter.unusedVariables false
namespace Go.Vm
open Go Go.RowKit
section
variable {P:Program} {w:Bool} {t el:TypeId} {f:TypeInfo} {s d e g k n a m c:Nat} {l:Fr} {h:AH} {K:Value→AH→Prop}
theorem natOf_n {i d:Nat}:natOf (some (.int .i64 (i:Int))) d = some i:=by simp [natOf]
theorem gen_3 {x y z : Int} (hu : P.underlying t = some (.slice el)) (hi : P.info? el = some f) (hsz : f.size = 1) (hl : lk l s = some (.slice (some ⟨k, 0, none⟩) n openB)) (h1 : lk l d = some (.int .i64 x)) (h2 : lk l e = some (.int .i64 y)) (h3 : lk l g = some (.int .i64 z)) (hx : x = a) (hy : y = (a : Int) + m) (hz : z = (a : Int) + m) (hn : a + m ≤ n) (hb : n < openB) (q : K (.slice (some ⟨k, if m = 0 then 0 else a, none⟩) m m) h) :
    iStep P w (.gen (.slice t (.tmp s) (some (.tmp d)) (some (.tmp e)) (some (.tmp g)))) l h K:=by
 obtain rfl:y = ((a + m:Nat):Int):=by omega
 obtain rfl:z = ((a + m:Nat):Int):=by omega
 subst hx
 refine ⟨_,_,?_,q⟩
 have ho : ¬ openB < openB:=Nat.lt_irrefl _
 have hv:aSlice P t (.slice (some ⟨k,0,none⟩) n openB) (some (.int .i64 a)) (some (.int .i64 (a + m:Nat))) (some (.int .i64 (a + m:Nat))) = some (.slice (some ⟨k,if m = 0 then 0 else a,none⟩) m m):=by
  simp only [aSlice,hu,hi,natOf_n,hsz]
  rw [if_neg ho,if_pos (by simp),if_pos ⟨by omega,Nat.le_refl _,hn,by omega,by simp⟩,Nat.add_sub_cancel_left]
  by_cases hm:m = 0
  ·subst hm
   simp
  ·rw [if_neg (by omega),if_neg hm]
   simp only [Addr.add,Nat.zero_add,Nat.mul_one]
   split
   ·rename_i hz; rw [hz]
   ·rfl
 have e1:aEnv (trOf l) (.tmp s) = some (.slice (some ⟨k,0,none⟩) n openB):=by simp only [aEnv,trOf_get,hl]
 have e2:aOptV (aEnv (trOf l)) (some (.tmp d)) = some (some (.int .i64 a)):=by simp only [aOptV,aEnv,trOf_get,h1]
 have e3:aOptV (aEnv (trOf l)) (some (.tmp e)) = some (some (.int .i64 (a + m:Nat))):=by simp only [aOptV,aEnv,trOf_get,h2]
 have e4:aOptV (aEnv (trOf l)) (some (.tmp g)) = some (some (.int .i64 (a + m:Nat))):=by simp only [aOptV,aEnv,trOf_get,h3]
 simp only [aOp,e1,e2,e3,e4,hv]
theorem gen_2 {x y : Int} (hu : P.underlying t = some (.slice el)) (hi : P.info? el = some f) (hsz : f.size = 1) (hl : lk l s = some (.slice (some ⟨k, 0, none⟩) n c)) (h1 : lk l d = some (.int .i64 x)) (h2 : lk l e = some (.int .i64 y)) (hx : x = a) (hy : y = (a : Int) + m) (hn : a + m ≤ n) (hc : c < openB → n ≤ c) (hm : 0 < m) (q : ∀ c', (c' < openB → m ≤ c') → K (.slice (some ⟨k, a, none⟩) m c') h) :
    iStep P w (.gen (.slice t (.tmp s) (some (.tmp d)) (some (.tmp e)) none)) l h K:=by
 obtain rfl:y = ((a + m:Nat):Int):=by omega
 subst hx
 have hv : ∃ c',(c' < openB→m≤c')∧aSlice P t (.slice (some ⟨k,0,none⟩) n c) (some (.int .i64 a)) (some (.int .i64 (a + m:Nat))) none = some (.slice (some ⟨k,a,none⟩) m c'):=by
  simp only [aSlice,hu,hi,natOf_n,hsz]
  have n3:natOf none c = some c:=rfl
  simp only [n3,hsz]
  by_cases ho:c < openB
  ·have:=hc ho
   refine ⟨c - a,fun _=>by omega,?_⟩
   rw [if_pos ho,if_pos ⟨by omega,by omega,Nat.le_refl _,by simp,by simp⟩,Nat.add_sub_cancel_left,if_neg (by omega)]
   simp only [Option.map_some,Addr.add,Nat.zero_add,Nat.mul_one]
   split
   ·rename_i hz; rw [hz]
   ·rfl
  ·refine ⟨c + a,fun h=>by omega,?_⟩
   rw [if_neg ho,if_neg (by simp),if_pos ⟨by omega,hn,by omega⟩,Nat.add_sub_cancel_left]
   simp only [Addr.add,Nat.zero_add,Nat.mul_one]
   split
   ·rename_i hz; rw [hz]
   ·rfl
 obtain ⟨c',hc',hv⟩:=hv
 refine ⟨_,_,?_,q c' hc'⟩
 have e1:aEnv (trOf l) (.tmp s) = some (.slice (some ⟨k,0,none⟩) n c):=by simp only [aEnv,trOf_get,hl]
 have e2:aOptV (aEnv (trOf l)) (some (.tmp d)) = some (some (.int .i64 a)):=by simp only [aOptV,aEnv,trOf_get,h1]
 have e3:aOptV (aEnv (trOf l)) (some (.tmp e)) = some (some (.int .i64 (a + m:Nat))):=by simp only [aOptV,aEnv,trOf_get,h2]
 have e4:aOptV (aEnv (trOf l)) none = some none:=rfl
 simp only [aOp,e1,e2,e3,e4,hv]
end
end Go.Vm
namespace Go.Proofs.YtgjokhodccacoaaDoor
open Go.RowKit Go.Vm
set_option maxRecDepth 100000
theorem u_slB:Tryd.prog.underlying 22 = some (.slice 5):=by kernel_rfl
theorem sz_u8:((Tryd.prog.info? 5).get rfl).size = 1:=by kernel_rfl
def sub (xs:List Int) (a m:Nat):List Int:=(xs.drop a).take m
theorem sub_len {xs:List Int} {a m:Nat} (h:a + m≤xs.length):(sub xs a m).length = m:=by
 unfold sub
 rw [List.length_take,List.length_drop]
 omega
theorem sub_nth {xs:List Int} {a m i:Nat} (h:i < m):nth (sub xs a m) i = nth xs (a + i):=by
 unfold sub nth
 rw [List.getD_eq_getElem?_getD,List.getD_eq_getElem?_getD,List.getElem?_take_of_lt h,List.getElem?_drop]
theorem sub_B {xs:List Int} {a m:Nat} (h:isB xs):isB (sub xs a m):=fun x hx=>h x (List.mem_of_mem_drop (List.mem_of_mem_take hx))
theorem bys_sub {cs:List Value} {o:Nat} {xs:List Int} {a m:Nat} (h:Bys cs o xs) (hl:a + m≤xs.length):Bys cs (o + a) (sub xs a m):=fun i hi=>by
 rw [sub_len hl] at hi
 rw [sub_nth hi,Nat.add_assoc]
 exact h _ (by omega)
theorem shl8 {a:Int} (h0:0≤a) (h1:a≤255):shI .shl .i64 a 8 = a * 256:=by
 show IntKind.i64.wrap (a * 2 ^ (min (8:Int).toNat 64)) = _
 rw [show (min (8:Int).toNat 64) = 8 from rfl,show (2:Int) ^ 8 = 256 from rfl]
 exact wrap_inR (by rw [inR_i64]; omega)
theorem or8 {a r:Int} (h0:0≤a) (h1:a≤255) (h2:0≤r) (h3:r≤255):btI .or .i64 (a * 256) r = a * 256 + r:=by
 obtain ⟨A,rfl⟩:=Int.eq_ofNat_of_zero_le h0
 obtain ⟨R,rfl⟩:=Int.eq_ofNat_of_zero_le h2
 show IntKind.i64.wrap _ = _
 rw [show IntKind.i64.bits = 64 from rfl,show (A:Int) * 256 = ((2 ^ 8 * A:Nat):Int) by omega,BitVec.ofInt_natCast,BitVec.ofInt_natCast,BitVec.toNat_or,BitVec.toNat_ofNat,BitVec.toNat_ofNat,Nat.mod_eq_of_lt (by omega),Nat.mod_eq_of_lt (by omega),← Nat.two_pow_add_eq_or_of_lt (by omega:R < 2 ^ 8) A,wrap_nat (by omega)]
 omega
inductive FR where
 | ok (kd:Int) (a m nx:Nat)
 | err (e:Int) (nx:Nat)
def frF (xs:List Int) (at_:Nat):FR :=
 if xs.length≤at_ then .err 60 at_
 else if nth xs at_ < 1∨250 < nth xs at_ then .err 4 (at_ + 1)
 else match numG xs 1000000000000000 (at_ + 1) 9 0 with
  | .err e nx=>.err e nx
  | .ok v nx=>if 10000 < v then .err 5 nx else if (xs.length:Int) < nx + v + 2 then .err 60 nx
   else if (crc (sub xs at_ (nx + v.toNat - at_)):Int)≠nth xs (nx + v.toNat) * 256 + nth xs (nx + v.toNat + 1) then .err 62 (nx + v.toNat)
   else .ok (nth xs at_) nx v.toNat (nx + v.toNat + 2)
abbrev plV (ks a m:Nat):Value:=.slice (some ⟨ks,if m = 0 then 0 else a,none⟩) m m
def FrQ (rs:List ResultVar) (wl kr ks n:Nat) (L:List (Option AObj)) (R:FR) (e:AEx) (l:Fr) (ms:List Nat) (h:AH):Prop:=match R with
 | .ok kd a m nx=>EndX Tryd.prog rs (.tuple #[.int .i64 kd,plV ks a m]) (Hp wl (L.set kr (some (rdC ks 0 n openB nx)))) e l ms h
 | .err er nx=>EndP (errV er) (Hp wl (L.set kr (some (rdC ks 0 n openB nx)))) e l ms h
def ir68_r0:IC:=.reg [⟨some 2,none,false,.mv (.k (.int .i64 0))⟩,
 ⟨some 3,none,false,.mv (.k (.slice none 0 0))⟩] (some [0])
def ir68_r1:IC:=.reg [⟨some 6,none,false,.mv (.t 0)⟩,
 ⟨some 7,none,false,.nilck (.t 6)⟩,
 ⟨some 8,none,false,.fad 1 (.t 7)⟩,
 ⟨some 9,none,false,.ldc (.t 8)⟩,
 ⟨some 4,none,false,.mv (.t 9)⟩] (some [0,4])
def ir68_r2:IC:=.reg [⟨some 10,none,false,.mv (.t 0)⟩,
 ⟨some 11,none,false,.call (.f 106) [(.t 10)]⟩,
 ⟨some 12,none,false,.conv .i64 (.t 11)⟩,
 ⟨some 2,none,false,.mv (.t 12)⟩] (some [0,2,4])
def ir68_r3:IC:=.reg [⟨some 13,none,false,.mv (.t 2)⟩,
 ⟨some 14,none,false,.cmp .lss (.t 13) (.k (.int .i64 1))⟩,
 ⟨some 15,none,false,.mv (.t 14)⟩,
 ⟨some 16,some (15,false),false,.mv (.t 2)⟩,
 ⟨some 17,some (15,false),false,.cmp .gtr (.t 16) (.k (.int .i64 250))⟩,
 ⟨some 18,none,false,.pick (.t 15) (.k (.bool true)) (.t 17)⟩] (some [0,2,4,18])
def ir68_r4:IC:=.reg [⟨some 19,none,false,.gen (.makeInterface 26 (.const (.int .i64 4)))⟩,
 ⟨none,none,false,.gen (.panic (.tmp 19))⟩] (some [0,2,4])
def ir68_1:IC:=.cond (.t 18) ir68_r4 .skip
def ir68_2:IC:=.seq ir68_r3 ir68_1
def ir68_3:IC:=.seq ir68_r2 ir68_2
def ir68_r5:IC:=.reg [⟨some 20,none,false,.mv (.t 0)⟩,
 ⟨some 21,none,false,.call (.f 96) [(.t 20),(.k (.int .i64 1000000000000000))]⟩,
 ⟨some 5,none,false,.mv (.t 21)⟩] (some [0,2,4,5])
def ir68_r6:IC:=.reg [⟨some 23,none,false,.mv (.t 5)⟩,
 ⟨some 24,none,false,.cmp .gtr (.t 23) (.k (.int .i64 10000))⟩,
 ⟨some 22,none,false,.mv (.t 24)⟩] (some [0,2,4,5,22])
def ir68_r7:IC:=.reg [⟨some 25,none,false,.gen (.makeInterface 26 (.const (.int .i64 5)))⟩,
 ⟨none,none,false,.gen (.panic (.tmp 25))⟩] (some [0,2,4,5])
def ir68_r8:IC:=.draw [(⟨some 27,none,false,.mv (.t 0)⟩,false,0,0),
 (⟨some 28,none,false,.nilck (.t 27)⟩,false,1,0),
 (⟨some 29,none,false,.fad 0 (.t 28)⟩,false,3,0),
 (⟨some 30,none,false,.ldc (.t 29)⟩,false,7,1),
 (⟨some 31,none,false,.len (.t 30)⟩,false,15,1),
 (⟨some 32,none,false,.mv (.t 0)⟩,false,0,0),
 (⟨some 33,none,false,.nilck (.t 32)⟩,false,32,0),
 (⟨some 34,none,false,.fad 1 (.t 33)⟩,false,96,0),
 (⟨some 35,none,false,.ldc (.t 34)⟩,false,224,16),
 (⟨some 36,none,false,.ar .sub (.t 31) (.t 35)⟩,false,511,0),
 (⟨some 37,none,false,.mv (.t 5)⟩,false,0,0),
 (⟨some 38,none,false,.ar .add (.t 37) (.k (.int .i64 2))⟩,false,1024,0),
 (⟨some 39,none,false,.cmp .lss (.t 36) (.t 38)⟩,false,4095,0),
 (⟨some 26,none,false,.mv (.t 39)⟩,false,8191,0)] (some [0,2,4,5,26])
def ir68_r9:IC:=.reg [⟨some 40,none,false,.gen (.makeInterface 26 (.const (.int .i64 60)))⟩,
 ⟨none,none,false,.gen (.panic (.tmp 40))⟩] (some [0,2,4,5])
def ir68_4:IC:=.cond (.t 26) ir68_r9 .skip
def ir68_5:IC:=.seq ir68_r8 ir68_4
def ir68_6:IC:=.cond (.t 22) ir68_r7 ir68_5
def ir68_7:IC:=.seq ir68_r6 ir68_6
def ir68_8:IC:=.block 0 ir68_7
def ir68_r10:IC:=.draw [(⟨some 41,none,false,.mv (.t 0)⟩,false,0,0),
 (⟨some 42,none,false,.nilck (.t 41)⟩,false,1,0),
 (⟨some 43,none,false,.fad 0 (.t 42)⟩,false,3,0),
 (⟨some 44,none,false,.ldc (.t 43)⟩,false,7,1),
 (⟨some 45,none,false,.mv (.t 0)⟩,false,0,0),
 (⟨some 46,none,false,.nilck (.t 45)⟩,false,16,0),
 (⟨some 47,none,false,.fad 1 (.t 46)⟩,false,48,0),
 (⟨some 48,none,false,.ldc (.t 47)⟩,false,112,8),
 (⟨some 49,none,false,.mv (.t 0)⟩,false,0,0),
 (⟨some 50,none,false,.nilck (.t 49)⟩,false,256,0),
 (⟨some 51,none,false,.fad 1 (.t 50)⟩,false,768,0),
 (⟨some 52,none,false,.ldc (.t 51)⟩,false,1792,120),
 (⟨some 53,none,false,.mv (.t 5)⟩,false,0,0),
 (⟨some 54,none,false,.ar .add (.t 52) (.t 53)⟩,false,7936,0),
 (⟨some 55,none,false,.mv (.t 0)⟩,false,0,0),
 (⟨some 56,none,false,.nilck (.t 55)⟩,false,16384,0),
 (⟨some 57,none,false,.fad 1 (.t 56)⟩,false,49152,0),
 (⟨some 58,none,false,.ldc (.t 57)⟩,false,114688,1912),
 (⟨some 59,none,false,.mv (.t 5)⟩,false,0,0),
 (⟨some 60,none,false,.ar .add (.t 58) (.t 59)⟩,false,507904,0),
 (⟨some 61,none,false,.gen (.slice 22 (.tmp 44) (some (.tmp 48)) (some (.tmp 54)) (some (.tmp 60)))⟩,true,1048575,0),
 (⟨some 3,none,false,.mv (.t 61)⟩,false,2097151,0)] (some [0,2,3,4,5])
def ir68_r11:IC:=.reg [⟨some 62,none,false,.mv (.t 0)⟩,
 ⟨some 63,none,false,.nilck (.t 62)⟩,
 ⟨some 64,none,false,.fad 1 (.t 63)⟩,
 ⟨some 65,none,false,.ldc (.t 64)⟩,
 ⟨some 66,none,false,.mv (.t 5)⟩,
 ⟨some 67,none,false,.ar .add (.t 65) (.t 66)⟩,
 ⟨some 68,none,false,.nilck (.t 62)⟩,
 ⟨some 69,none,false,.fad 1 (.t 68)⟩,
 ⟨none,none,false,.st 1 (.t 69) (.t 67)⟩] (some [0,2,3,4])
def ir68_r12:IC:=.draw [(⟨some 70,none,false,.mv (.t 0)⟩,false,0,0),
 (⟨some 71,none,false,.nilck (.t 70)⟩,false,1,0),
 (⟨some 72,none,false,.fad 0 (.t 71)⟩,false,3,0),
 (⟨some 73,none,false,.ldc (.t 72)⟩,false,7,1),
 (⟨some 74,none,false,.mv (.t 4)⟩,false,0,0),
 (⟨some 75,none,false,.mv (.t 0)⟩,false,0,0),
 (⟨some 76,none,false,.nilck (.t 75)⟩,false,32,0),
 (⟨some 77,none,false,.fad 1 (.t 76)⟩,false,96,0),
 (⟨some 78,none,false,.ldc (.t 77)⟩,false,224,8),
 (⟨some 79,none,false,.gen (.slice 22 (.tmp 73) (some (.tmp 74)) (some (.tmp 78)) none)⟩,false,511,1),
 (⟨some 80,none,false,.call (.f 21) [(.t 79)]⟩,false,1023,1),
 (⟨some 81,none,false,.mv (.t 0)⟩,false,0,0),
 (⟨some 82,none,false,.nilck (.t 81)⟩,false,2048,0),
 (⟨some 83,none,false,.fad 0 (.t 82)⟩,false,6144,0),
 (⟨some 84,none,false,.ldc (.t 83)⟩,false,14336,1024),
 (⟨some 85,none,false,.mv (.t 0)⟩,false,0,0),
 (⟨some 86,none,false,.nilck (.t 85)⟩,false,32768,0),
 (⟨some 87,none,false,.fad 1 (.t 86)⟩,false,98304,0),
 (⟨some 88,none,false,.ldc (.t 87)⟩,false,229376,15360),
 (⟨some 89,none,false,.iad 1 (.t 84) (.t 88)⟩,false,522240,0),
 (⟨some 90,none,false,.ldc (.t 89)⟩,false,1046528,1024),
 (⟨some 91,none,false,.conv .i64 (.t 90)⟩,false,2095104,0),
 (⟨some 92,none,false,.shf .shl (.t 91) (.k (.int .u64 8))⟩,false,4192256,0),
 (⟨some 93,none,false,.mv (.t 0)⟩,false,0,0),
 (⟨some 94,none,false,.nilck (.t 93)⟩,false,8388608,0),
 (⟨some 95,none,false,.fad 0 (.t 94)⟩,false,25165824,0),
 (⟨some 96,none,false,.ldc (.t 95)⟩,false,58720256,1047552),
 (⟨some 97,none,false,.mv (.t 0)⟩,false,0,0),
 (⟨some 98,none,false,.nilck (.t 97)⟩,false,134217728,0),
 (⟨some 99,none,false,.fad 1 (.t 98)⟩,false,402653184,0),
 (⟨some 100,none,false,.ldc (.t 99)⟩,false,939524096,59767808),
 (⟨some 101,none,false,.ar .add (.t 100) (.k (.int .i64 1))⟩,false,2013265920,0),
 (⟨some 102,none,false,.iad 1 (.t 96) (.t 101)⟩,false,4286578688,0),
 (⟨some 103,none,false,.ldc (.t 102)⟩,false,8581545984,1047552),
 (⟨some 104,none,false,.conv .i64 (.t 103)⟩,false,17171480576,0),
 (⟨some 105,none,false,.bits .or (.t 92) (.t 104)⟩,false,34359736320,0),
 (⟨some 106,none,false,.cmp .neq (.t 80) (.t 105)⟩,false,68719476735,0)] (some [0,2,3,106])
def ir68_r13:IC:=.reg [⟨some 107,none,false,.gen (.makeInterface 26 (.const (.int .i64 62)))⟩,
 ⟨none,none,false,.gen (.panic (.tmp 107))⟩] (some [0,2,3])
def ir68_9:IC:=.cond (.t 106) ir68_r13 .skip
def ir68_10:IC:=.seq ir68_r12 ir68_9
def ir68_r14:IC:=.reg [⟨some 108,none,false,.mv (.t 0)⟩,
 ⟨some 109,none,false,.nilck (.t 108)⟩,
 ⟨some 110,none,false,.fad 1 (.t 109)⟩,
 ⟨some 111,none,false,.ldc (.t 110)⟩,
 ⟨some 112,none,false,.ar .add (.t 111) (.k (.int .i64 2))⟩,
 ⟨some 113,none,false,.nilck (.t 108)⟩,
 ⟨some 114,none,false,.fad 1 (.t 113)⟩,
 ⟨none,none,false,.st 1 (.t 114) (.t 112)⟩] (some [2,3])
def ir68_r15:IC:=.reg [⟨some 115,none,false,.mv (.t 2)⟩,
 ⟨some 116,none,false,.mv (.t 3)⟩,
 ⟨some 2,none,false,.mv (.t 115)⟩,
 ⟨some 3,none,false,.mv (.t 116)⟩] (some [2,3])
def ir68_11:IC:=.seq ir68_r15 .ret
def ir68_12:IC:=.seq ir68_r14 ir68_11
def ir68_13:IC:=.seq ir68_10 ir68_12
def ir68_14:IC:=.seq ir68_r11 ir68_13
def ir68_15:IC:=.seq ir68_r10 ir68_14
def ir68_16:IC:=.seq ir68_8 ir68_15
def ir68_17:IC:=.seq ir68_r5 ir68_16
def ir68_18:IC:=.seq ir68_3 ir68_17
def ir68_19:IC:=.seq ir68_r1 ir68_18
def ir68_20:IC:=.seq ir68_r0 ir68_19
def ir68:IC:=ir68_20
theorem fn68:FnIs Tryd.prog 68 ir68 117 [.tmp 2,.tmp 3]:=⟨Tryd.f68,Tryd.f68.body.getD .skip,Tryd.func68,by kernel_rfl,by kernel_rfl,by kernel_rfl,by kernel_rfl⟩
section
variable {wl kr ks n at_ sz:Nat} {op:Bool} {L:List (Option AObj)} {cs:List Value} {xs:List Int}
theorem frame_t (hk : kr ≠ ks) (hw : wl ≤ kr) (hR : (L[kr]?).join = some (rdC ks 0 n openB at_)) (hS : (L[ks]?).join = some (.cells ⟨cs, sz, op⟩)) (hx : Bys cs 0 xs) (hB : isB xs) (hn : xs.length = n) (hb : n ≤ 1000000) (hat : at_ ≤ n) :
    ITri Tryd.prog 117 none L.length ir68 (argF 0 [.pointer (some ⟨kr,0,none⟩)]) [] (Hp wl L) (FrQ [.tmp 2,.tmp 3] wl kr ks n L (frF xs at_)):=by
 simp only [argF]
 have hl:=get_lt' hR
 have hoB:n < openB:=by unfold openB; omega
 obtain ⟨R,eR⟩ : ∃ R,R = frF xs at_:=⟨_,rfl⟩
 rw [← eR]
 unfold frF at eR
 refine ITri.seq ?_
 refine ITri.reg pok ?_; simp -implicitDefEqProofs (disch:=first|decide|exact of_eq_true (eq_true rfl)|omega|assumption) only [↓vcD,vcE,↓vcG,vcF,evs,evP,evB,intsOf,fillC,Value.cells,pt,Value.oneCell',reduceIte,reduceCtorEq,Nat.reduceEqDiff,Nat.reduceAdd,Nat.reduceMul,Nat.reduceLT,Nat.reduceBEq,Nat.reduceLeDiff,Nat.reduceSub]
 refine ITri.seq ?_
 refine ITri.reg pok ?_; simp -implicitDefEqProofs (disch:=first|decide|exact of_eq_true (eq_true rfl)|omega|assumption) only [hR, ↓vcD,vcE,↓vcG,vcF,evs,evP,evB,intsOf,fillC,Value.cells,pt,Value.oneCell',reduceIte,reduceCtorEq,Nat.reduceEqDiff,Nat.reduceAdd,Nat.reduceMul,Nat.reduceLT,Nat.reduceBEq,Nat.reduceLeDiff,Nat.reduceSub]
 refine ITri.seq ?_
 refine ITri.seq ?_
 by_cases g1:xs.length≤at_
 ·rw [if_pos g1] at eR
  rw [eR]
  refine ITri.regP 1 pok ?_; simp -implicitDefEqProofs (disch:=first|decide|exact of_eq_true (eq_true rfl)|omega|assumption) only [ iRowP_s,iRowP_0,iRowP_on,iRowP_off,iRowP_un,iStepP_call, ↓vcD,vcE,↓vcG,vcF,evs,evP,evB,intsOf,fillC,Value.cells,pt,Value.oneCell',reduceIte,reduceCtorEq,Nat.reduceEqDiff,Nat.reduceAdd,Nat.reduceMul,Nat.reduceLT,Nat.reduceBEq,Nat.reduceLeDiff,Nat.reduceSub]
  refine ⟨_,_,next_cut hR hb (by omega) (by omega),?_⟩
  simp only [SeqQ_pan,BlkQ_pan,LoopQ_pan,CutQ_pan]
  rw [← set_same' hR]
  refine ⟨rfl,rfl,?_⟩
  rw [set_set']
 rw [if_neg g1] at eR
 have hv:=hB _ (nth_mem (show at_ < xs.length by omega))
 refine ITri.reg pok ?_; simp -implicitDefEqProofs (disch:=first|decide|exact of_eq_true (eq_true rfl)|omega|assumption) only [↓vcD,vcE,↓vcG,vcF,evs,evP,evB,intsOf,fillC,Value.cells,pt,Value.oneCell',reduceIte,reduceCtorEq,Nat.reduceEqDiff,Nat.reduceAdd,Nat.reduceMul,Nat.reduceLT,Nat.reduceBEq,Nat.reduceLeDiff,Nat.reduceSub]
 refine ⟨_,_,next_ok hk hw hR hS hx hn hb (by omega),?_⟩
 try simp -implicitDefEqProofs (disch:=first|decide|exact of_eq_true (eq_true rfl)|omega|assumption) only [↓vcD,vcE,↓vcG,vcF,evs,evP,evB,intsOf,fillC,Value.cells,pt,Value.oneCell',reduceIte,reduceCtorEq,Nat.reduceEqDiff,Nat.reduceAdd,Nat.reduceMul,Nat.reduceLT,Nat.reduceBEq,Nat.reduceLeDiff,Nat.reduceSub]
 have hR1:((L.set kr (some (rdC ks 0 n openB (at_ + 1))))[kr]?).join = some (rdC ks 0 n openB (at_ + 1)):=set_hit hl
 have hS1:((L.set kr (some (rdC ks 0 n openB (at_ + 1))))[ks]?).join = some (.cells ⟨cs,sz,op⟩):=by rw [set_ne hk]; exact hS
 refine ITri.seq ?_
 by_cases g2:nth xs at_ < 1∨250 < nth xs at_
 ·rw [if_pos g2] at eR
  rw [eR]
  refine ITri.one [(0,.pointer (some ⟨kr,0,none⟩)),(2,.int .i64 (nth xs at_)),(4,.int .i64 at_),(18,.bool true)] ?_ ?_
  ·by_cases q:nth xs at_ < 1
   ·refine ITri.reg pok ?_; simp -implicitDefEqProofs (disch:=first|decide|exact of_eq_true (eq_true rfl)|omega|assumption) only [q,decide_true, ↓vcD,vcE,↓vcG,vcF,evs,evP,evB,intsOf,fillC,Value.cells,pt,Value.oneCell',reduceIte,reduceCtorEq,Nat.reduceEqDiff,Nat.reduceAdd,Nat.reduceMul,Nat.reduceLT,Nat.reduceBEq,Nat.reduceLeDiff,Nat.reduceSub]
   ·have q2:250 < nth xs at_:=by omega
    refine ITri.reg pok ?_; simp -implicitDefEqProofs (disch:=first|decide|exact of_eq_true (eq_true rfl)|omega|assumption) only [q,q2,decide_true,decide_false, ↓vcD,vcE,↓vcG,vcF,evs,evP,evB,intsOf,fillC,Value.cells,pt,Value.oneCell',reduceIte,reduceCtorEq,Nat.reduceEqDiff,Nat.reduceAdd,Nat.reduceMul,Nat.reduceLT,Nat.reduceBEq,Nat.reduceLeDiff,Nat.reduceSub]
  refine ITri.cond (v:=true) rfl (fun _=>?_) (fun h=>by cases h)
  refine ITri.panE pok (mkE _) ?_
  simp only [SeqQ_pan,BlkQ_pan,LoopQ_pan,CutQ_pan]
  exact ⟨rfl,rfl,rfl⟩
 rw [if_neg g2] at eR
 have q1 : ¬ nth xs at_ < 1:=fun e=>g2 (.inl e)
 have q2 : ¬ 250 < nth xs at_:=fun e=>g2 (.inr e)
 refine ITri.reg pok ?_; simp -implicitDefEqProofs (disch:=first|decide|exact of_eq_true (eq_true rfl)|omega|assumption) only [q1,q2,decide_false, ↓vcD,vcE,↓vcG,vcF,evs,evP,evB,intsOf,fillC,Value.cells,pt,Value.oneCell',reduceIte,reduceCtorEq,Nat.reduceEqDiff,Nat.reduceAdd,Nat.reduceMul,Nat.reduceLT,Nat.reduceBEq,Nat.reduceLeDiff,Nat.reduceSub]
 refine ITri.cond (v:=false) rfl (fun h=>by cases h) (fun _=>?_); refine ITri.skip ?_; simp only [SeqQ_normal,BlkQ_normal]
 refine ITri.seq ?_
 cases hr:numG xs 1000000000000000 (at_ + 1) 9 0 with
 | err e nx =>
  rw [hr] at eR
  rw [eR]
  refine ITri.regP 1 pok ?_; simp -implicitDefEqProofs (disch:=first|decide|exact of_eq_true (eq_true rfl)|omega|assumption) only [ iRowP_s,iRowP_0,iRowP_on,iRowP_off,iRowP_un,iStepP_call, ↓vcD,vcE,↓vcG,vcF,evs,evP,evB,intsOf,fillC,Value.cells,pt,Value.oneCell',reduceIte,reduceCtorEq,Nat.reduceEqDiff,Nat.reduceAdd,Nat.reduceMul,Nat.reduceLT,Nat.reduceBEq,Nat.reduceLeDiff,Nat.reduceSub]
  refine ⟨_,_,number_err hr hk hw hR1 hS1 hx hB hn hb (by omega),?_⟩
  simp only [SeqQ_pan,BlkQ_pan,LoopQ_pan,CutQ_pan]
  refine ⟨rfl,rfl,?_⟩
  rw [set_set']
 | ok v nx =>
  rw [hr] at eR
  simp only at eR
  obtain ⟨b1,b2,b3,b4,b5⟩:=numG_bd 9 0 (by omega) hr
  refine ITri.reg pok ?_; simp -implicitDefEqProofs (disch:=first|decide|exact of_eq_true (eq_true rfl)|omega|assumption) only [↓vcD,vcE,↓vcG,vcF,evs,evP,evB,intsOf,fillC,Value.cells,pt,Value.oneCell',reduceIte,reduceCtorEq,Nat.reduceEqDiff,Nat.reduceAdd,Nat.reduceMul,Nat.reduceLT,Nat.reduceBEq,Nat.reduceLeDiff,Nat.reduceSub]
  refine ⟨_,_,number_ok hr hk hw hR1 hS1 hx hB hn hb (by omega),?_⟩
  simp -implicitDefEqProofs (disch:=first|decide|exact of_eq_true (eq_true rfl)|omega|assumption) only [set_set', ↓vcD,vcE,↓vcG,vcF,evs,evP,evB,intsOf,fillC,Value.cells,pt,Value.oneCell',reduceIte,reduceCtorEq,Nat.reduceEqDiff,Nat.reduceAdd,Nat.reduceMul,Nat.reduceLT,Nat.reduceBEq,Nat.reduceLeDiff,Nat.reduceSub]
  have hR2:((L.set kr (some (rdC ks 0 n openB nx)))[kr]?).join = some (rdC ks 0 n openB nx):=set_hit hl
  have hS2:((L.set kr (some (rdC ks 0 n openB nx)))[ks]?).join = some (.cells ⟨cs,sz,op⟩):=by rw [set_ne hk]; exact hS
  refine ITri.seq ?_
  refine ITri.block ?_
  refine ITri.seq ?_
  refine ITri.reg pok ?_; simp -implicitDefEqProofs (disch:=first|decide|exact of_eq_true (eq_true rfl)|omega|assumption) only [↓vcD,vcE,↓vcG,vcF,evs,evP,evB,intsOf,fillC,Value.cells,pt,Value.oneCell',reduceIte,reduceCtorEq,Nat.reduceEqDiff,Nat.reduceAdd,Nat.reduceMul,Nat.reduceLT,Nat.reduceBEq,Nat.reduceLeDiff,Nat.reduceSub]
  refine ITri.condD (by rfl) (fun h2=>?_) (fun h2=>?_)
  ·rw [if_pos h2] at eR
   rw [eR]
   refine ITri.panE pok (mkE _) ?_
   simp only [SeqQ_pan,BlkQ_pan,LoopQ_pan,CutQ_pan]
   exact ⟨rfl,rfl,rfl⟩
  rw [if_neg h2] at eR
  refine ITri.seq ?_
  refine ITri.draw pok ?_; simp -implicitDefEqProofs (disch:=first|decide|exact of_eq_true (eq_true rfl)|omega|assumption) only [hR2, ↓vcD,vcE,↓vcG,vcF,evs,evP,evB,intsOf,fillC,Value.cells,pt,Value.oneCell',reduceIte,reduceCtorEq,Nat.reduceEqDiff,Nat.reduceAdd,Nat.reduceMul,Nat.reduceLT,Nat.reduceBEq,Nat.reduceLeDiff,Nat.reduceSub]
  refine ITri.condD (by rfl) (fun h3=>?_) (fun h3=>?_)
  ·rw [if_pos (by omega)] at eR
   rw [eR]
   refine ITri.panE pok (mkE _) ?_
   simp only [SeqQ_pan,BlkQ_pan,LoopQ_pan,CutQ_pan]
   exact ⟨rfl,rfl,rfl⟩
  rw [if_neg (by omega)] at eR
  refine ITri.skip ?_; simp only [SeqQ_normal,BlkQ_normal]
  obtain ⟨m,rfl⟩:=Int.eq_ofNat_of_zero_le b1
  rw [Int.toNat_natCast] at eR
  have e1:(nx:Int) + (m:Int) = ((nx + m:Nat):Int):=by omega
  refine ITri.seq ?_
  refine ITri.draw pok ?_; simp -implicitDefEqProofs (disch:=first|decide|exact of_eq_true (eq_true rfl)|omega|assumption) only [hR2, ↓vcD,vcE,↓vcG,vcF,evs,evP,evB,intsOf,fillC,Value.cells,pt,Value.oneCell',reduceIte,reduceCtorEq,Nat.reduceEqDiff,Nat.reduceAdd,Nat.reduceMul,Nat.reduceLT,Nat.reduceBEq,Nat.reduceLeDiff,Nat.reduceSub]
  refine gen_3 (a:=nx) (m:=m) u_slB i_u8 sz_u8 rfl rfl rfl rfl rfl rfl rfl (by omega) hoB ?_
  try simp -implicitDefEqProofs (disch:=first|decide|exact of_eq_true (eq_true rfl)|omega|assumption) only [↓vcD,vcE,↓vcG,vcF,evs,evP,evB,intsOf,fillC,Value.cells,pt,Value.oneCell',reduceIte,reduceCtorEq,Nat.reduceEqDiff,Nat.reduceAdd,Nat.reduceMul,Nat.reduceLT,Nat.reduceBEq,Nat.reduceLeDiff,Nat.reduceSub]
  refine ITri.seq ?_
  refine ITri.reg pok ?_; simp -implicitDefEqProofs (disch:=first|decide|exact of_eq_true (eq_true rfl)|omega|assumption) only [hR2,e1, ↓vcD,vcE,↓vcG,vcF,evs,evP,evB,intsOf,fillC,Value.cells,pt,Value.oneCell',reduceIte,reduceCtorEq,Nat.reduceEqDiff,Nat.reduceAdd,Nat.reduceMul,Nat.reduceLT,Nat.reduceBEq,Nat.reduceLeDiff,Nat.reduceSub]
  simp -implicitDefEqProofs (disch:=first|decide|exact of_eq_true (eq_true rfl)|omega|assumption) only [set_set', ↓vcD,vcE,↓vcG,vcF,evs,evP,evB,intsOf,fillC,Value.cells,pt,Value.oneCell',reduceIte,reduceCtorEq,Nat.reduceEqDiff,Nat.reduceAdd,Nat.reduceMul,Nat.reduceLT,Nat.reduceBEq,Nat.reduceLeDiff,Nat.reduceSub]
  have hR3:((L.set kr (some (rdC ks 0 n openB (nx + m))))[kr]?).join = some (rdC ks 0 n openB (nx + m)):=set_hit hl
  have hS3:((L.set kr (some (rdC ks 0 n openB (nx + m))))[ks]?).join = some (.cells ⟨cs,sz,op⟩):=by rw [set_ne hk]; exact hS
  have y1:=hx (nx + m) (by omega)
  have y2:=hx (nx + m + 1) (by omega)
  rw [Nat.zero_add] at y1 y2
  have v1:=hB _ (nth_mem (show nx + m < xs.length by omega))
  have v2:=hB _ (nth_mem (show nx + m + 1 < xs.length by omega))
  have e2:((nx + m:Nat):Int) + 1 = ((nx + m + 1:Nat):Int):=by omega
  have e3:((nx + m:Nat):Int) + 2 = ((nx + m + 2:Nat):Int):=by omega
  have f1:=shl8 v1.1 v1.2
  have f2:=or8 v1.1 v1.2 v2.1 v2.2
  generalize hb1:nth xs (nx + m) = b1' at *
  generalize hb2:nth xs (nx + m + 1) = b2' at *
  have hck : ∀ {wl c'},Fc Tryd.prog 21 [.slice (some ⟨ks,at_,none⟩) (nx + m - at_) c'] (Hp wl (L.set kr (some (rdC ks 0 n openB (nx + m))))) (.int .i64 (crc (sub xs at_ (nx + m - at_)):Nat)) (Hp wl (L.set kr (some (rdC ks 0 n openB (nx + m))))):=fun {wl c'} =>
   check_x hS3 (by have:=bys_sub (a:=at_) (m:=nx + m - at_) hx (by omega); rwa [Nat.zero_add] at this) (sub_B hB) (sub_len (by omega)) (by omega)
  generalize crc (sub xs at_ (nx + m - at_)) = ck at *
  refine ITri.seq ?_
  refine ITri.seq ?_
  refine ITri.draw pok ?_; simp -implicitDefEqProofs (disch:=first|decide|exact of_eq_true (eq_true rfl)|omega|assumption) only [hR3, ↓vcD,vcE,↓vcG,vcF,evs,evP,evB,intsOf,fillC,Value.cells,pt,Value.oneCell',reduceIte,reduceCtorEq,Nat.reduceEqDiff,Nat.reduceAdd,Nat.reduceMul,Nat.reduceLT,Nat.reduceBEq,Nat.reduceLeDiff,Nat.reduceSub]
  refine gen_2 (a:=at_) (m:=nx + m - at_) u_slB i_u8 sz_u8 rfl rfl rfl rfl (by omega) (by omega) (fun h=>by omega) (by omega) fun c' hc'=>?_
  try simp -implicitDefEqProofs (disch:=first|decide|exact of_eq_true (eq_true rfl)|omega|assumption) only [↓vcD,vcE,↓vcG,vcF,evs,evP,evB,intsOf,fillC,Value.cells,pt,Value.oneCell',reduceIte,reduceCtorEq,Nat.reduceEqDiff,Nat.reduceAdd,Nat.reduceMul,Nat.reduceLT,Nat.reduceBEq,Nat.reduceLeDiff,Nat.reduceSub]
  refine ⟨_,_,hck,?_⟩
  simp -implicitDefEqProofs (disch:=first|decide|exact of_eq_true (eq_true rfl)|omega|assumption) only [hR3,hS3,y1,y2,e2,f1,f2, ↓vcD,vcE,↓vcG,vcF,evs,evP,evB,intsOf,fillC,Value.cells,pt,Value.oneCell',reduceIte,reduceCtorEq,Nat.reduceEqDiff,Nat.reduceAdd,Nat.reduceMul,Nat.reduceLT,Nat.reduceBEq,Nat.reduceLeDiff,Nat.reduceSub]
  by_cases g4:(ck:Int) = b1' * 256 + b2'
  ·rw [if_neg (by simp [g4])] at eR
   rw [eR]
   have g4' : decide ((ck:Int) = b1' * 256 + b2') = true:=decide_eq_true g4
   refine ITri.cond (v:=false) (by show some (Value.bool (!decide _)) = _; rw [g4']; rfl) (fun h=>by cases h) (fun _=>?_)
   refine ITri.skip ?_; simp only [SeqQ_normal,BlkQ_normal]
   refine ITri.seq ?_
   refine ITri.reg pok ?_; simp -implicitDefEqProofs (disch:=first|decide|exact of_eq_true (eq_true rfl)|omega|assumption) only [hR3,e3,set_set', ↓vcD,vcE,↓vcG,vcF,evs,evP,evB,intsOf,fillC,Value.cells,pt,Value.oneCell',reduceIte,reduceCtorEq,Nat.reduceEqDiff,Nat.reduceAdd,Nat.reduceMul,Nat.reduceLT,Nat.reduceBEq,Nat.reduceLeDiff,Nat.reduceSub]
   refine ITri.seq ?_
   refine ITri.reg pok ?_; simp -implicitDefEqProofs (disch:=first|decide|exact of_eq_true (eq_true rfl)|omega|assumption) only [↓vcD,vcE,↓vcG,vcF,evs,evP,evB,intsOf,fillC,Value.cells,pt,Value.oneCell',reduceIte,reduceCtorEq,Nat.reduceEqDiff,Nat.reduceAdd,Nat.reduceMul,Nat.reduceLT,Nat.reduceBEq,Nat.reduceLeDiff,Nat.reduceSub]
   refine ITri.ret ?_
   exact EndX.mk (by simp) (by rfl) (by rfl) (by rfl)
  ·rw [if_pos g4] at eR
   rw [eR]
   have g4' : decide ((ck:Int) = b1' * 256 + b2') = false:=decide_eq_false g4
   refine ITri.cond (v:=true) (by show some (Value.bool (!decide _)) = _; rw [g4']; rfl) (fun _=>?_) (fun h=>by cases h)
   refine ITri.panE pok (mkE _) ?_
   simp only [SeqQ_pan,BlkQ_pan,LoopQ_pan,CutQ_pan]
   exact ⟨rfl,rfl,rfl⟩
theorem frame_ok {kd : Int} {a m nx : Nat} (hr : frF xs at_ = .ok kd a m nx) (hk : kr ≠ ks) (hw : wl ≤ kr) (hR : (L[kr]?).join = some (rdC ks 0 n openB at_)) (hS : (L[ks]?).join = some (.cells ⟨cs, sz, op⟩)) (hx : Bys cs 0 xs) (hB : isB xs) (hn : xs.length = n) (hb : n ≤ 1000000) (hat : at_ ≤ n) :
    Fc Tryd.prog 68 [.pointer (some ⟨kr,0,none⟩)] (Hp wl L) (.tuple #[.int .i64 kd,plV ks a m]) (Hp wl (L.set kr (some (rdC ks 0 n openB nx)))):=by
 have T:=frame_t hk hw hR hS hx hB hn hb hat
 rw [hr] at T
 exact Fc.introX fn68 (by simp) (fun _=>grow_hq (by simp) (set_take hw)) T
theorem frame_err {e : Int} {nx : Nat} (hr : frF xs at_ = .err e nx) (hk : kr ≠ ks) (hw : wl ≤ kr) (hR : (L[kr]?).join = some (rdC ks 0 n openB at_)) (hS : (L[ks]?).join = some (.cells ⟨cs, sz, op⟩)) (hx : Bys cs 0 xs) (hB : isB xs) (hn : xs.length = n) (hb : n ≤ 1000000) (hat : at_ ≤ n) :
    Fp Tryd.prog 68 [.pointer (some ⟨kr,0,none⟩)] (Hp wl L) (errV e) (Hp wl (L.set kr (some (rdC ks 0 n openB nx)))):=by
 have T:=frame_t hk hw hR hS hx hB hn hb hat
 rw [hr] at T
 exact Fp.introX fn68 (by simp) (fun _=>grow_hq (by simp) (set_take hw)) T
end
end Go.Proofs.YtgjokhodccacoaaDoor
