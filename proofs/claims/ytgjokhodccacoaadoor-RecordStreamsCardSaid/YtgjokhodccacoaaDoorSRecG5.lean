import Derived.Test.YtgjokhodccacoaaDoorSRecG3
set_option linter.unusedSimpArgs false
set_option linter.unusedVariables false
namespace Go.Vm
open Go Go.RowKit
section
variable {P:Program} {w:Bool} {t el:TypeId} {f:TypeInfo} {s d e k n a c:Nat} {l:Fr} {h:AH} {K:Value→AH→Prop}
end
end Go.Vm
namespace Go.Proofs.YtgjokhodccacoaaDoor
open Go.RowKit Go.Vm
set_option maxRecDepth 100000
def ir26_r0:IC:=.reg [⟨some 4,none,false,.alloc [(.int .i64 0),(.slice none 0 0)]⟩,
 ⟨some 5,none,false,.mv (.k (.int .i64 0))⟩,
 ⟨some 6,none,false,.mv (.k (.int .i64 0))⟩] (some [0,1,4])
def ir26_r1:IC:=.reg [⟨some 11,none,false,.mv (.t 0)⟩,
 ⟨some 12,none,false,.len (.t 11)⟩,
 ⟨some 13,none,false,.cmp .gtr (.t 12) (.k (.int .i64 30000))⟩] (some [0,1,4,13])
def ir26_r2:IC:=.reg [⟨some 14,none,false,.bld [(.int .i64 0),(.slice none 0 0)] []⟩,
 ⟨none,none,false,.st 2 (.t 4) (.t 14)⟩,
 ⟨some 5,none,false,.mv (.k (.int .i64 0))⟩,
 ⟨some 6,none,false,.mv (.k (.int .i64 5))⟩] (some [4,5,6])
def ir26_1:IC:=.seq ir26_r2 .ret
def ir26_2:IC:=.cond (.t 13) ir26_1 .skip
def ir26_3:IC:=.seq ir26_r1 ir26_2
def ir26_r3:IC:=.reg [⟨some 15,none,false,.mv (.t 1)⟩,
 ⟨some 16,none,false,.cmp .lss (.t 15) (.k (.int .i64 0))⟩,
 ⟨some 17,none,false,.mv (.t 16)⟩,
 ⟨some 18,some (17,false),false,.mv (.t 1)⟩,
 ⟨some 19,some (17,false),false,.mv (.t 0)⟩,
 ⟨some 20,some (17,false),false,.len (.t 19)⟩,
 ⟨some 21,some (17,false),false,.cmp .gtr (.t 18) (.t 20)⟩,
 ⟨some 22,none,false,.pick (.t 17) (.k (.bool true)) (.t 21)⟩] (some [0,1,4,22])
def ir26_r4:IC:=.reg [⟨some 23,none,false,.bld [(.int .i64 0),(.slice none 0 0)] []⟩,
 ⟨none,none,false,.st 2 (.t 4) (.t 23)⟩,
 ⟨some 5,none,false,.mv (.k (.int .i64 0))⟩,
 ⟨some 6,none,false,.mv (.k (.int .i64 3))⟩] (some [4,5,6])
def ir26_4:IC:=.seq ir26_r4 .ret
def ir26_5:IC:=.cond (.t 22) ir26_4 .skip
def ir26_6:IC:=.seq ir26_r3 ir26_5
def ir26_r5:IC:=.reg [⟨some 24,none,false,.mv (.t 1)⟩,
 ⟨some 25,none,false,.mv (.t 0)⟩,
 ⟨some 26,none,false,.len (.t 25)⟩,
 ⟨some 27,none,false,.cmp .eql (.t 24) (.t 26)⟩] (some [0,1,4,27])
def ir26_r6:IC:=.reg [⟨some 28,none,false,.bld [(.int .i64 0),(.slice none 0 0)] []⟩,
 ⟨none,none,false,.st 2 (.t 4) (.t 28)⟩,
 ⟨some 5,none,false,.mv (.k (.int .i64 0))⟩,
 ⟨some 6,none,false,.mv (.k (.int .i64 60))⟩] (some [4,5,6])
def ir26_7:IC:=.seq ir26_r6 .ret
def ir26_8:IC:=.cond (.t 27) ir26_7 .skip
def ir26_9:IC:=.seq ir26_r5 ir26_8
def ir26_r7:IC:=.reg [⟨some 29,none,false,.mv (.t 0)⟩,
 ⟨some 30,none,false,.mv (.t 1)⟩,
 ⟨some 31,none,false,.iad 1 (.t 29) (.t 30)⟩,
 ⟨some 32,none,false,.ldc (.t 31)⟩,
 ⟨some 33,none,false,.cmp .lss (.t 32) (.k (.int .u8 1))⟩,
 ⟨some 34,none,false,.mv (.t 33)⟩,
 ⟨some 35,some (34,false),false,.mv (.t 0)⟩,
 ⟨some 36,some (34,false),false,.mv (.t 1)⟩,
 ⟨some 37,some (34,false),false,.iad 1 (.t 35) (.t 36)⟩,
 ⟨some 38,some (34,false),false,.ldc (.t 37)⟩,
 ⟨some 39,some (34,false),false,.cmp .gtr (.t 38) (.k (.int .u8 250))⟩,
 ⟨some 40,none,false,.pick (.t 34) (.k (.bool true)) (.t 39)⟩] (some [0,1,4,40])
def ir26_r8:IC:=.reg [⟨some 41,none,false,.bld [(.int .i64 0),(.slice none 0 0)] []⟩,
 ⟨none,none,false,.st 2 (.t 4) (.t 41)⟩,
 ⟨some 5,none,false,.mv (.k (.int .i64 0))⟩,
 ⟨some 6,none,false,.mv (.k (.int .i64 4))⟩] (some [4,5,6])
def ir26_10:IC:=.seq ir26_r8 .ret
def ir26_11:IC:=.cond (.t 40) ir26_10 .skip
def ir26_12:IC:=.seq ir26_r7 ir26_11
def ir26_r9:IC:=.reg [⟨some 43,none,false,.mv (.t 0)⟩,
 ⟨some 44,none,false,.mv (.t 1)⟩,
 ⟨some 45,none,false,.ar .add (.t 44) (.k (.int .i64 1))⟩,
 ⟨some 46,none,false,.call (.f 54) [(.t 43),(.t 45)]⟩,
 ⟨some 42,none,false,.mv (.t 46)⟩,
 ⟨some 47,none,false,.ext (.t 42) 0⟩,
 ⟨some 48,none,false,.ext (.t 42) 1⟩,
 ⟨some 49,none,false,.ext (.t 42) 2⟩,
 ⟨some 7,none,false,.mv (.t 47)⟩,
 ⟨some 8,none,false,.mv (.t 48)⟩,
 ⟨some 9,none,false,.mv (.t 49)⟩] (some [0,1,4,7,8,9])
def ir26_r10:IC:=.reg [⟨some 51,none,false,.mv (.t 9)⟩,
 ⟨some 52,none,false,.cmp .neq (.t 51) (.k (.int .i64 0))⟩,
 ⟨some 50,none,false,.mv (.t 52)⟩] (some [0,1,4,7,8,9,50])
def ir26_r11:IC:=.reg [⟨some 53,none,false,.bld [(.int .i64 0),(.slice none 0 0)] []⟩,
 ⟨some 54,none,false,.mv (.t 9)⟩,
 ⟨none,none,false,.st 2 (.t 4) (.t 53)⟩,
 ⟨some 5,none,false,.mv (.k (.int .i64 0))⟩,
 ⟨some 6,none,false,.mv (.t 54)⟩] (some [4,5,6])
def ir26_13:IC:=.seq ir26_r11 .ret
def ir26_r12:IC:=.reg [⟨some 56,none,false,.mv (.t 7)⟩,
 ⟨some 57,none,false,.cmp .gtr (.t 56) (.k (.int .i64 10000))⟩,
 ⟨some 55,none,false,.mv (.t 57)⟩] (some [0,1,4,7,8,55])
def ir26_r13:IC:=.reg [⟨some 58,none,false,.bld [(.int .i64 0),(.slice none 0 0)] []⟩,
 ⟨none,none,false,.st 2 (.t 4) (.t 58)⟩,
 ⟨some 5,none,false,.mv (.k (.int .i64 0))⟩,
 ⟨some 6,none,false,.mv (.k (.int .i64 5))⟩] (some [4,5,6])
def ir26_14:IC:=.seq ir26_r13 .ret
def ir26_r14:IC:=.reg [⟨some 60,none,false,.mv (.t 8)⟩,
 ⟨some 61,none,false,.mv (.t 7)⟩,
 ⟨some 62,none,false,.ar .add (.t 60) (.t 61)⟩,
 ⟨some 63,none,false,.ar .add (.t 62) (.k (.int .i64 2))⟩,
 ⟨some 64,none,false,.mv (.t 0)⟩,
 ⟨some 65,none,false,.len (.t 64)⟩,
 ⟨some 66,none,false,.cmp .gtr (.t 63) (.t 65)⟩,
 ⟨some 59,none,false,.mv (.t 66)⟩] (some [0,1,4,7,8,59])
def ir26_r15:IC:=.reg [⟨some 67,none,false,.bld [(.int .i64 0),(.slice none 0 0)] []⟩,
 ⟨none,none,false,.st 2 (.t 4) (.t 67)⟩,
 ⟨some 5,none,false,.mv (.k (.int .i64 0))⟩,
 ⟨some 6,none,false,.mv (.k (.int .i64 60))⟩] (some [4,5,6])
def ir26_15:IC:=.seq ir26_r15 .ret
def ir26_16:IC:=.cond (.t 59) ir26_15 .skip
def ir26_17:IC:=.seq ir26_r14 ir26_16
def ir26_18:IC:=.cond (.t 55) ir26_14 ir26_17
def ir26_19:IC:=.seq ir26_r12 ir26_18
def ir26_20:IC:=.cond (.t 50) ir26_13 ir26_19
def ir26_21:IC:=.seq ir26_r10 ir26_20
def ir26_22:IC:=.block 0 ir26_21
def ir26_r16:IC:=.reg [⟨some 68,none,false,.mv (.t 0)⟩,
 ⟨some 69,none,false,.mv (.t 1)⟩,
 ⟨some 70,none,false,.mv (.t 8)⟩,
 ⟨some 71,none,false,.mv (.t 7)⟩,
 ⟨some 72,none,false,.ar .add (.t 70) (.t 71)⟩,
 ⟨some 73,none,false,.gen (.slice 22 (.tmp 68) (some (.tmp 69)) (some (.tmp 72)) none)⟩,
 ⟨some 74,none,false,.call (.f 24) [(.t 73)]⟩,
 ⟨some 10,none,false,.mv (.t 74)⟩] (some [0,1,4,7,8,10])
def ir26_r17:IC:=.reg [⟨some 75,none,false,.mv (.t 0)⟩,
 ⟨some 76,none,false,.mv (.t 8)⟩,
 ⟨some 77,none,false,.mv (.t 7)⟩,
 ⟨some 78,none,false,.ar .add (.t 76) (.t 77)⟩,
 ⟨some 79,none,false,.iad 1 (.t 75) (.t 78)⟩,
 ⟨some 80,none,false,.ldc (.t 79)⟩,
 ⟨some 81,none,false,.conv .i64 (.t 80)⟩,
 ⟨some 82,none,false,.mv (.t 10)⟩,
 ⟨some 83,none,false,.div .quo (.t 82) (.k (.int .i64 256))⟩,
 ⟨some 84,none,false,.cmp .neq (.t 81) (.t 83)⟩,
 ⟨some 85,none,false,.mv (.t 84)⟩,
 ⟨some 86,some (85,false),false,.mv (.t 0)⟩,
 ⟨some 87,some (85,false),false,.mv (.t 8)⟩,
 ⟨some 88,some (85,false),false,.mv (.t 7)⟩,
 ⟨some 89,some (85,false),false,.ar .add (.t 87) (.t 88)⟩,
 ⟨some 90,some (85,false),false,.ar .add (.t 89) (.k (.int .i64 1))⟩,
 ⟨some 91,some (85,false),false,.iad 1 (.t 86) (.t 90)⟩,
 ⟨some 92,some (85,false),false,.ldc (.t 91)⟩,
 ⟨some 93,some (85,false),false,.conv .i64 (.t 92)⟩,
 ⟨some 94,some (85,false),false,.mv (.t 10)⟩,
 ⟨some 95,some (85,false),false,.div .rem (.t 94) (.k (.int .i64 256))⟩,
 ⟨some 96,some (85,false),false,.cmp .neq (.t 93) (.t 95)⟩,
 ⟨some 97,none,false,.pick (.t 85) (.k (.bool true)) (.t 96)⟩] (some [0,1,4,7,8,97])
def ir26_r18:IC:=.reg [⟨some 98,none,false,.bld [(.int .i64 0),(.slice none 0 0)] []⟩,
 ⟨none,none,false,.st 2 (.t 4) (.t 98)⟩,
 ⟨some 5,none,false,.mv (.k (.int .i64 0))⟩,
 ⟨some 6,none,false,.mv (.k (.int .i64 62))⟩] (some [4,5,6])
def ir26_23:IC:=.seq ir26_r18 .ret
def ir26_24:IC:=.cond (.t 97) ir26_23 .skip
def ir26_25:IC:=.seq ir26_r17 ir26_24
def ir26_26:IC:=.seq ir26_r16 ir26_25
def ir26_r19:IC:=.draw [(⟨some 99,none,false,.mv (.t 0)⟩,false,0,0),
 (⟨some 100,none,false,.mv (.t 1)⟩,false,0,0),
 (⟨some 101,none,false,.iad 1 (.t 99) (.t 100)⟩,false,3,0),
 (⟨some 102,none,false,.ldc (.t 101)⟩,false,7,4097),
 (⟨some 103,none,false,.conv .i64 (.t 102)⟩,false,15,0),
 (⟨some 104,none,false,.bsl 1 0 [] []⟩,false,0,4104),
 (⟨some 105,none,false,.mv (.t 0)⟩,false,0,0),
 (⟨some 106,none,false,.mv (.t 8)⟩,false,0,0),
 (⟨some 107,none,false,.mv (.t 8)⟩,false,0,0),
 (⟨some 108,none,false,.mv (.t 7)⟩,false,0,0),
 (⟨some 109,none,false,.ar .add (.t 107) (.t 108)⟩,false,768,0),
 (⟨some 110,none,false,.gen (.slice 22 (.tmp 105) (some (.tmp 106)) (some (.tmp 109)) none)⟩,false,1984,4104),
 (⟨some 111,none,false,.app 1 1 (.t 104) (.t 110)⟩,false,4064,4104),
 (⟨some 112,none,false,.bld [(.int .i64 0),(.slice none 0 0)] [(0,1,(.t 103)),(1,1,(.t 111))]⟩,false,8191,0),
 (⟨some 113,none,false,.mv (.t 8)⟩,false,0,0),
 (⟨some 114,none,false,.mv (.t 7)⟩,false,0,0),
 (⟨some 115,none,false,.ar .add (.t 113) (.t 114)⟩,false,49152,0),
 (⟨some 116,none,false,.ar .add (.t 115) (.k (.int .i64 2))⟩,false,114688,0),
 (⟨none,none,false,.st 2 (.t 4) (.t 112)⟩,true,16383,0),
 (⟨some 5,none,false,.mv (.t 116)⟩,false,524287,0),
 (⟨some 6,none,false,.mv (.k (.int .i64 0))⟩,false,1048575,0)] (some [4,5,6])
def ir26_27:IC:=.seq ir26_r19 .ret
def ir26_28:IC:=.seq ir26_26 ir26_27
def ir26_29:IC:=.seq ir26_22 ir26_28
def ir26_30:IC:=.seq ir26_r9 ir26_29
def ir26_31:IC:=.seq ir26_12 ir26_30
def ir26_32:IC:=.seq ir26_9 ir26_31
def ir26_33:IC:=.seq ir26_6 ir26_32
def ir26_34:IC:=.seq ir26_3 ir26_33
def ir26_35:IC:=.seq ir26_r0 ir26_34
def ir26:IC:=ir26_35
theorem fn26:FnIs Tryd.prog 26 ir26 117 [.cell 4 30,.tmp 5,.tmp 6]:=⟨Tryd.f26,Tryd.f26.body.getD .skip,Tryd.func26,by kernel_rfl,by kernel_rfl,by kernel_rfl,by kernel_rfl⟩
end Go.Proofs.YtgjokhodccacoaaDoor
set_option linter.unusedSimpArgs false
set_option linter.unusedVariables false
namespace Go.Vm
open Go Go.RowKit
section
variable {P:Program} {w:Bool} {t el:TypeId} {f:TypeInfo} {s k n c sz:Nat} {l:Fr} {h:AH} {K:Value→AH→Prop} {op:Bool} {xs:List Int}
theorem bytesL_rows : ∀ ys:List Int,bytesL (rows (fun x:Int=>[Value.int .u8 x]) ys) = some ys
 | []=>rfl
 | y :: ys=>by
  show bytesL (Value.int .u8 y :: rows _ ys) = _
  rw [bytesL,bytesL_rows ys]
theorem gen_str {d : TypeId} {el : TypeId} (hm : memConv t d = true) (hu : P.underlying t = some (.slice el)) (he : P.underlying el = some (.int .u8)) (hd : P.underlying d = some .string) (hl : lk l s = some (.slice (some ⟨k, 0, none⟩) n c)) (hn : xs.length = n) (hg : h.get k = some (.cells ⟨rows (fun x : Int => [Value.int .u8 x]) xs, sz, op⟩)) (q : K (aStr xs) h) :
    iStep P w (.gen (.convert t d (.tmp s))) l h K:=by
 subst hn
 refine ⟨_,_,?_,q⟩
 have e1:aEnv (trOf l) (.tmp s) = some (.slice (some ⟨k,0,none⟩) xs.length c):=by simp only [aEnv,trOf_get,hl]
 have hlen:(rows (fun x:Int=>[Value.int .u8 x]) xs).length = xs.length:=by
  have key : ∀ ys:List Int,(rows (fun x:Int=>[Value.int .u8 x]) ys).length = ys.length:=by
   intro ys
   induction ys with
   | nil=>rfl
   | cons x r ih=>show (_ :: rows _ r).length = _; simpa using ih
  exact key xs
 have e2:aFirst h 1 xs.length (.slice (some ⟨k,0,none⟩) xs.length c) = some (rows (fun x:Int=>[Value.int .u8 x]) xs):=by
  show (if xs.length * 1 = 0 then some [] else _) = _
  rw [Nat.mul_one]
  by_cases h0:xs.length = 0
  ·rw [if_pos h0,List.eq_nil_of_length_eq_zero h0]
   rfl
  ·rw [if_neg h0]
   simp only [hg,Nat.zero_add,hlen,List.drop_zero]
   rw [if_pos (Nat.le_refl _),List.take_of_length_le (by omega)]
 have e3:noAddr (.slice (some ⟨k,0,none⟩) xs.length c) = false:=rfl
 simp only [aOp,e1,e3,Bool.false_eq_true,if_false,hm,if_true,aToStr,hu,hd,he,e2,bytesL_rows]
end
end Go.Vm
namespace Go.Proofs.YtgjokhodccacoaaDoor
open Go.RowKit Go.Vm
set_option maxRecDepth 100000
def flp (xs:List Int):Nat→List Int
 | 0=>xs
 | i + 1=>(flp xs i).set i (btI .xor .u8 (nth xs i) 255)
theorem flp_len {xs:List Int} : ∀ i,(flp xs i).length = xs.length
 | 0=>rfl
 | i + 1=>by rw [flp,List.length_set,flp_len i]
theorem flp_get {xs:List Int} : ∀ i j,i≤j→(flp xs i)[j]? = xs[j]?
 | 0,_,_=>rfl
 | i + 1,j,h=>by rw [flp,List.getElem?_set_ne (by omega),flp_get i j (by omega)]
theorem flp_nth {xs:List Int} {i:Nat}:nth (flp xs i) i = nth xs i:=by
 unfold nth
 simp only [List.getD_eq_getElem?_getD,List.get!Internal_eq_getElem!,List.getElem!_eq_getElem?_getD,flp_get i i (Nat.le_refl _)]
theorem u_str:Tryd.prog.underlying 9 = some .string:=by kernel_rfl
theorem u_uint8:Tryd.prog.underlying 5 = some (.int .u8):=by kernel_rfl
end Go.Proofs.YtgjokhodccacoaaDoor
