import Derived.Test.YtgjokhodccacoaaDoorSRecG5
set_option linter.unusedSimpArgs false
set_option linter.unusedVariables false
namespace Go.Vm
open Go Go.RowKit
section
variable {P:Program} {w:Bool} {t el:TypeId} {f:TypeInfo} {s k n c sz:Nat} {l:Fr} {h:AH} {K:Value→AH→Prop} {op:Bool} {xs:List Int}
theorem bi_cap {a:Option Addr} {args:List X} (hu:P.underlying t = some (.slice el)) (hl:evs l args = some [.slice a n c]) (hc:c < openB) (q:K (.int .i64 c) h):iStep P w (.bi .cap #[t] args) l h K:=by
 show match evs l args with
  | some vs=>∃ v h',(∀ ty,aBuiltin P h .cap #[t] ty vs = some (v,h'))∧K v h'
  | none=>False
 rw [hl]
 refine ⟨_,_,fun ty=>?_,q⟩
 simp [aBuiltin,hu,hc]
theorem gen_arr {s d : Nat} {o : Nat} {x : Int} (hu : P.underlying t = some (.array n el)) (hi : P.info? el = some f) (hsz : f.size = 1) (hl : lk l s = some (.pointer (some ⟨k, 0, none⟩))) (h1 : lk l d = some (.int .i64 x)) (hx : x = o) (ho : o < n) (hn : n < openB) (q : K (.slice (some ⟨k, o, none⟩) (n - o) (n - o)) h) :
    iStep P w (.gen (.slice t (.tmp s) (some (.tmp d)) none none)) l h K:=by
 subst hx
 refine ⟨_,_,?_,q⟩
 have e1:aEnv (trOf l) (.tmp s) = some (.pointer (some ⟨k,0,none⟩)):=by simp only [aEnv,trOf_get,hl]
 have e2:aOptV (aEnv (trOf l)) (some (.tmp d)) = some (some (.int .i64 o)):=by simp only [aOptV,aEnv,trOf_get,h1]
 have e4:aOptV (aEnv (trOf l)) none = some none:=rfl
 have n1:natOf (some (.int .i64 (o:Int))) 0 = some o:=natOf_n
 have n2:natOf none n = some n:=rfl
 have e5:aSlice P t (.pointer (some ⟨k,0,none⟩)) (some (.int .i64 o)) none none = some (.slice (some ⟨k,o,none⟩) (n - o) (n - o)):=by
  simp only [aSlice,hu,hi,n1,n2,hsz,Addr.add,Nat.zero_add,Nat.mul_one]
  rw [if_pos ⟨by omega,Nat.le_refl _,Nat.le_refl _,by simp,hn⟩]
  by_cases h0:n = o
  ·omega
  ·by_cases h0' : o = 0
   ·subst h0'; simp
   ·simp [h0,h0']
 simp only [aOp,e1,e2,e4,e5]
theorem gen_from0 {s d : Nat} {a : Addr} {x : Int} (hu : P.underlying t = some (.slice el)) (hi : P.info? el = some f) (hl : lk l s = some (.slice (some a) n c)) (h1 : lk l d = some (.int .i64 x)) (hx : x = 0) (hc : n ≤ c) (hco : c < openB) (q : K (.slice (some a) n c) h) :
    iStep P w (.gen (.slice t (.tmp s) (some (.tmp d)) none none)) l h K:=by
 subst hx
 refine ⟨_,_,?_,q⟩
 have e1:aEnv (trOf l) (.tmp s) = some (.slice (some a) n c):=by simp only [aEnv,trOf_get,hl]
 have e2:aOptV (aEnv (trOf l)) (some (.tmp d)) = some (some (.int .i64 0)):=by simp only [aOptV,aEnv,trOf_get,h1]
 have e4:aOptV (aEnv (trOf l)) none = some none:=rfl
 have n1:natOf (some (.int .i64 0)) 0 = some 0:=rfl
 have n2:natOf none n = some n:=rfl
 have n3:natOf none c = some c:=rfl
 have e5:aSlice P t (.slice (some a) n c) (some (.int .i64 0)) none none = some (.slice (some a) n c):=by
  simp only [aSlice,hu,hi,n1,n2,n3,if_pos hco]
  rw [if_pos ⟨by omega,hc,Nat.le_refl _,by simp,by simp [hc]⟩]
  by_cases h0:c = 0
  ·simp [h0]
  ·rw [if_neg h0]
   simp [Addr.add]
 simp only [aOp,e1,e2,e4,e5]
end
end Go.Vm
namespace Go.Proofs.YtgjokhodccacoaaDoor
open Go.RowKit Go.Vm
set_option maxRecDepth 100000
def grL (n:Nat) (acc:List Int):List Int:=if h:n = 0 then acc else grL (n / 128) ((128 + (n % 128:Nat):Int) :: acc)
termination_by n
decreasing_by omega
def groups (n:Nat):List Int:=grL (n / 128) [((n % 128:Nat):Int)]
theorem bt_and7 {a:Nat} (ha:a < 9223372036854775808):btI .and .i64 (a:Int) 127 = ((a % 128:Nat):Int):=by
 show IntKind.i64.wrap _ = _
 rw [show IntKind.i64.bits = 64 from rfl,show (127:Int) = ((127:Nat):Int) from rfl,BitVec.ofInt_natCast,BitVec.ofInt_natCast,BitVec.toNat_and,BitVec.toNat_ofNat,BitVec.toNat_ofNat]
 have:a % 2 ^ 64 &&& 127 % 2 ^ 64 = a % 128:=by
  rw [Nat.mod_eq_of_lt (by omega:a < 2 ^ 64),show 127 % 2 ^ 64 = 2 ^ 7 - 1 from rfl,Nat.and_two_pow_sub_one_eq_mod]
 rw [this,wrap_nat (by omega)]
theorem bt_or7 {a:Nat} (ha:a < 128):btI .or .i64 (a:Int) 128 = ((128 + a:Nat):Int):=by
 have : ∀ a,a < 128→a ||| 128 = 128 + a:=by decide
 show IntKind.i64.wrap _ = _
 rw [show IntKind.i64.bits = 64 from rfl,show (128:Int) = ((128:Nat):Int) from rfl,BitVec.ofInt_natCast,BitVec.ofInt_natCast,BitVec.toNat_or,BitVec.toNat_ofNat,BitVec.toNat_ofNat,Nat.mod_eq_of_lt (by omega),Nat.mod_eq_of_lt (by omega),this a ha,wrap_nat (by omega)]
theorem shr7 {a:Nat}:shI .shr .i64 (a:Int) 7 = ((a / 128:Nat):Int):=by
 show (a:Int).fdiv (2 ^ (min (7:Int).toNat 64)) = _
 rw [show (min (7:Int).toNat 64) = 7 from rfl,show (2:Int) ^ 7 = 128 from rfl,Int.fdiv_eq_ediv_of_nonneg _ (by decide)]
 simp
def GrJ (N:Nat) (s:Nat×List Int):Prop:=grL s.1 s.2 = groups N∧s.2.length + 0≤9∧0 < s.2.length∧s.1 < 128 ^ (9 - s.2.length)∧isB s.2
theorem gr_begin {N:Nat} (h:N < 9223372036854775808):GrJ N (N / 128,[((N % 128:Nat):Int)]):=by
 refine ⟨rfl,(by show 1 + 0≤9; decide),(by show 0 < 1; decide),?_,?_⟩
 ·show N / 128 < 128 ^ 8
  omega
 ·intro x hx
  simp only [List.mem_cons,List.not_mem_nil,or_false] at hx
  subst hx
  omega
theorem gr_step {N m:Nat} {acc:List Int} (J:GrJ N (m,acc)) (h:m≠0):GrJ N (m / 128,(((128 + m % 128:Nat):Int) :: acc))∧acc.length < 9:=by
 obtain ⟨j1,j2,j3,j4,j5⟩:=J
 simp only at j1 j2 j3 j4 j5
 have h9:acc.length < 9:=by
  rcases Nat.lt_or_ge acc.length 9 with h|h
  ·exact h
  ·rw [show 9 - acc.length = 0 by omega] at j4
   omega
 refine ⟨⟨?_,?_,?_,?_,?_⟩,h9⟩
 ·rw [grL,dif_neg h] at j1
  exact j1
 ·show acc.length + 1 + 0≤9
  omega
 ·show 0 < acc.length + 1
  omega
 ·show m / 128 < 128 ^ (9 - (acc.length + 1))
  rw [show 9 - acc.length = (9 - (acc.length + 1)) + 1 by omega,Nat.pow_succ] at j4
  exact Nat.div_lt_of_lt_mul (by omega)
 ·intro x hx
  rcases List.mem_cons.1 hx with rfl|hx
  ·omega
  ·exact j5 x hx
theorem gr_end {N:Nat} {acc:List Int} (J:GrJ N (0,acc)):acc = groups N:=by
 have:=J.1
 rwa [grL,dif_pos rfl] at this
abbrev bufE:Option AObj:=some (.cells ⟨[.slice none 0 0,.int .i64 0,.int .i8 0],1,false⟩)
abbrev bufO (s:Value):Option AObj:=some (.cells ⟨[s,.int .i64 0,.int .i8 0],1,false⟩)
abbrev arB (xs:List Int):Option AObj:=some (.cells ⟨rows eB xs,1,false⟩)
def ir103_r0:IC:=.reg [⟨some 2,none,false,.mv (.k (.int .i64 0))⟩] (some [0])
def ir103_r1:IC:=.draw [(⟨some 3,none,false,.mv (.t 0)⟩,false,0,0),
 (⟨some 4,none,false,.nilck (.t 3)⟩,false,1,0),
 (⟨some 5,none,false,.fad 0 (.t 4)⟩,false,3,0),
 (⟨some 6,none,false,.ldc (.t 5)⟩,false,7,1),
 (⟨some 7,none,false,.len (.t 6)⟩,false,15,1),
 (⟨some 8,none,false,.mv (.t 0)⟩,false,0,0),
 (⟨some 9,none,false,.nilck (.t 8)⟩,false,32,0),
 (⟨some 10,none,false,.fad 1 (.t 9)⟩,false,96,0),
 (⟨some 11,none,false,.ldc (.t 10)⟩,false,224,16),
 (⟨some 12,none,false,.ar .sub (.t 7) (.t 11)⟩,false,511,0),
 (⟨some 2,none,false,.mv (.t 12)⟩,false,1023,0)] (some [2])
def ir103_1:IC:=.seq ir103_r1 .ret
def ir103_2:IC:=.seq ir103_r0 ir103_1
def ir103:IC:=ir103_2
theorem fn103:FnIs Tryd.prog 103 ir103 13 [.tmp 2]:=⟨Tryd.f103,Tryd.f103.body.getD .skip,Tryd.func103,by kernel_rfl,by kernel_rfl,by kernel_rfl,by kernel_rfl⟩
def ir109_r0:IC:=.reg [⟨some 4,none,false,.mv (.k (.int .i64 0))⟩,
 ⟨some 5,none,false,.mv (.k (.bool false))⟩] (some [0,1])
def ir109_r1:IC:=.reg [⟨some 7,none,false,.mv (.t 0)⟩,
 ⟨some 8,none,false,.nilck (.t 7)⟩,
 ⟨some 9,none,false,.fad 0 (.t 8)⟩,
 ⟨some 10,none,false,.ldc (.t 9)⟩,
 ⟨some 11,none,false,.len (.t 10)⟩,
 ⟨some 6,none,false,.mv (.t 11)⟩] (some [0,1,6])
def ir109_r2:IC:=.reg [⟨some 12,none,false,.mv (.t 1)⟩,
 ⟨some 13,none,false,.mv (.t 0)⟩,
 ⟨some 14,none,false,.nilck (.t 13)⟩,
 ⟨some 15,none,false,.fad 0 (.t 14)⟩,
 ⟨some 16,none,false,.ldc (.t 15)⟩,
 ⟨some 17,none,false,.bi .cap #[22] [(.t 16)]⟩,
 ⟨some 18,none,false,.mv (.t 6)⟩,
 ⟨some 19,none,false,.ar .sub (.t 17) (.t 18)⟩,
 ⟨some 20,none,false,.cmp .leq (.t 12) (.t 19)⟩] (some [0,1,6,20])
def ir109_r3:IC:=.reg [⟨some 21,none,false,.mv (.t 0)⟩,
 ⟨some 22,none,false,.mv (.t 0)⟩,
 ⟨some 23,none,false,.nilck (.t 22)⟩,
 ⟨some 24,none,false,.fad 0 (.t 23)⟩,
 ⟨some 25,none,false,.ldc (.t 24)⟩,
 ⟨some 26,none,false,.mv (.t 6)⟩,
 ⟨some 27,none,false,.mv (.t 1)⟩,
 ⟨some 28,none,false,.ar .add (.t 26) (.t 27)⟩,
 ⟨some 29,none,false,.gen (.slice 22 (.tmp 25) none (some (.tmp 28)) none)⟩,
 ⟨some 30,none,false,.nilck (.t 21)⟩,
 ⟨some 31,none,false,.fad 0 (.t 30)⟩,
 ⟨none,none,false,.st 1 (.t 31) (.t 29)⟩] (some [6])
def ir109_r4:IC:=.reg [⟨some 32,none,false,.mv (.t 6)⟩,
 ⟨some 4,none,false,.mv (.t 32)⟩,
 ⟨some 5,none,false,.mv (.k (.bool true))⟩] (some [4,5])
def ir109_1:IC:=.seq ir109_r4 .ret
def ir109_2:IC:=.seq ir109_r3 ir109_1
def ir109_3:IC:=.cond (.t 20) ir109_2 .skip
def ir109_4:IC:=.seq ir109_r2 ir109_3
def ir109_5:IC:=.seq ir109_r1 ir109_4
def ir109_r5:IC:=.reg [⟨some 4,none,false,.mv (.k (.int .i64 0))⟩,
 ⟨some 5,none,false,.mv (.k (.bool false))⟩] (some [4,5])
def ir109_6:IC:=.seq ir109_r5 .ret
def ir109_7:IC:=.seq ir109_5 ir109_6
def ir109_8:IC:=.seq ir109_r0 ir109_7
def ir109:IC:=ir109_8
theorem fn109:FnIs Tryd.prog 109 ir109 33 [.tmp 4,.tmp 5]:=⟨Tryd.f109,Tryd.f109.body.getD .skip,Tryd.func109,by kernel_rfl,by kernel_rfl,by kernel_rfl,by kernel_rfl⟩
def ir110_r0:IC:=.reg [⟨some 4,none,false,.mv (.k (.int .i64 0))⟩] (some [0,1])
def ir110_r1:IC:=.reg [⟨some 9,none,false,.mv (.t 0)⟩,
 ⟨some 10,none,false,.call (.f 103) [(.t 9)]⟩,
 ⟨some 5,none,false,.mv (.t 10)⟩] (some [0,1,5])
def ir110_r2:IC:=.reg [⟨some 11,none,false,.mv (.t 5)⟩,
 ⟨some 12,none,false,.cmp .eql (.t 11) (.k (.int .i64 0))⟩,
 ⟨some 13,none,false,.mv (.t 12)⟩,
 ⟨some 14,some (13,true),false,.mv (.t 0)⟩,
 ⟨some 15,some (13,true),false,.nilck (.t 14)⟩,
 ⟨some 16,some (13,true),false,.fad 1 (.t 15)⟩,
 ⟨some 17,some (13,true),false,.ldc (.t 16)⟩,
 ⟨some 18,some (13,true),false,.cmp .neq (.t 17) (.k (.int .i64 0))⟩,
 ⟨some 19,none,false,.pick (.t 13) (.t 18) (.k (.bool false))⟩] (some [0,1,5,19])
def ir110_r3:IC:=.reg [⟨some 20,none,false,.mv (.t 0)⟩,
 ⟨some 21,none,false,.call (.f 129) [(.t 20)]⟩] (some [0,1,5])
def ir110_1:IC:=.cond (.t 19) ir110_r3 .skip
def ir110_2:IC:=.seq ir110_r2 ir110_1
def ir110_r4:IC:=.reg [⟨some 23,none,false,.mv (.t 0)⟩,
 ⟨some 24,none,false,.mv (.t 1)⟩,
 ⟨some 25,none,false,.call (.f 109) [(.t 23),(.t 24)]⟩,
 ⟨some 22,none,false,.mv (.t 25)⟩,
 ⟨some 26,none,false,.ext (.t 22) 0⟩,
 ⟨some 27,none,false,.ext (.t 22) 1⟩,
 ⟨some 6,none,false,.mv (.t 26)⟩,
 ⟨some 7,none,false,.mv (.t 27)⟩] (some [0,1,5,6,7])
def ir110_r5:IC:=.reg [⟨some 28,none,false,.mv (.t 7)⟩] (some [0,1,5,6,28])
def ir110_r6:IC:=.reg [⟨some 29,none,false,.mv (.t 6)⟩,
 ⟨some 4,none,false,.mv (.t 29)⟩] (some [4])
def ir110_3:IC:=.seq ir110_r6 .ret
def ir110_4:IC:=.cond (.t 28) ir110_3 .skip
def ir110_5:IC:=.seq ir110_r5 ir110_4
def ir110_6:IC:=.seq ir110_r4 ir110_5
def ir110_r7:IC:=.reg [⟨some 30,none,false,.mv (.t 0)⟩,
 ⟨some 31,none,false,.nilck (.t 30)⟩,
 ⟨some 32,none,false,.fad 0 (.t 31)⟩,
 ⟨some 33,none,false,.ldc (.t 32)⟩,
 ⟨some 34,none,false,.gen (.binOp .eql 22 (.tmp 33) (.const (.slice none 0 0)) 22)⟩,
 ⟨some 35,none,false,.mv (.t 34)⟩,
 ⟨some 36,some (35,true),false,.mv (.t 1)⟩,
 ⟨some 37,some (35,true),false,.cmp .leq (.t 36) (.k (.int .i64 64))⟩,
 ⟨some 38,none,false,.pick (.t 35) (.t 37) (.k (.bool false))⟩] (some [0,1,5,38])
def ir110_r8:IC:=.reg [⟨some 39,none,false,.mv (.t 0)⟩,
 ⟨some 40,none,false,.mv (.t 1)⟩,
 ⟨some 41,none,false,.mks 1 [(.int .u8 0)] (.t 40) (.k (.int .i64 64))⟩,
 ⟨some 42,none,false,.nilck (.t 39)⟩,
 ⟨some 43,none,false,.fad 0 (.t 42)⟩,
 ⟨none,none,false,.st 1 (.t 43) (.t 41)⟩] (some [])
def ir110_r9:IC:=.reg [⟨some 4,none,false,.mv (.k (.int .i64 0))⟩] (some [4])
def ir110_7:IC:=.seq ir110_r9 .ret
def ir110_8:IC:=.seq ir110_r8 ir110_7
def ir110_9:IC:=.cond (.t 38) ir110_8 .skip
def ir110_10:IC:=.seq ir110_r7 ir110_9
def ir110_r10:IC:=.reg [⟨some 44,none,false,.mv (.t 0)⟩,
 ⟨some 45,none,false,.nilck (.t 44)⟩,
 ⟨some 46,none,false,.fad 0 (.t 45)⟩,
 ⟨some 47,none,false,.ldc (.t 46)⟩,
 ⟨some 48,none,false,.bi .cap #[22] [(.t 47)]⟩,
 ⟨some 8,none,false,.mv (.t 48)⟩] (some [0,1,5,8])
def ir110_r11:IC:=.reg [⟨some 49,none,false,.mv (.t 1)⟩,
 ⟨some 50,none,false,.mv (.t 8)⟩,
 ⟨some 51,none,false,.div .quo (.t 50) (.k (.int .i64 2))⟩,
 ⟨some 52,none,false,.mv (.t 5)⟩,
 ⟨some 53,none,false,.ar .sub (.t 51) (.t 52)⟩,
 ⟨some 54,none,false,.cmp .leq (.t 49) (.t 53)⟩] (some [0,1,5,8,54])
def ir110_r12:IC:=.draw [(⟨some 55,none,false,.mv (.t 0)⟩,false,0,0),
 (⟨some 56,none,false,.nilck (.t 55)⟩,false,1,0),
 (⟨some 57,none,false,.fad 0 (.t 56)⟩,false,3,0),
 (⟨some 58,none,false,.ldc (.t 57)⟩,false,7,1),
 (⟨some 59,none,false,.mv (.t 0)⟩,false,0,0),
 (⟨some 60,none,false,.nilck (.t 59)⟩,false,16,0),
 (⟨some 61,none,false,.fad 0 (.t 60)⟩,false,48,0),
 (⟨some 62,none,false,.ldc (.t 61)⟩,false,112,8),
 (⟨some 63,none,false,.mv (.t 0)⟩,false,0,0),
 (⟨some 64,none,false,.nilck (.t 63)⟩,false,256,0),
 (⟨some 65,none,false,.fad 1 (.t 64)⟩,false,768,0),
 (⟨some 66,none,false,.ldc (.t 65)⟩,false,1792,120),
 (⟨some 67,none,false,.gen (.slice 22 (.tmp 62) (some (.tmp 66)) none none)⟩,false,4080,8),
 (⟨some 68,none,false,.bi .copy #[22,22] [(.t 58),(.t 67)]⟩,true,8191,0)] (some [0,1,5])
def ir110_r13:IC:=.reg [⟨some 69,none,false,.mv (.t 8)⟩,
 ⟨some 70,none,false,.mv (.t 8)⟩,
 ⟨some 71,none,false,.ar .sub (.k (.int .i64 9223372036854775807)) (.t 70)⟩,
 ⟨some 72,none,false,.mv (.t 1)⟩,
 ⟨some 73,none,false,.ar .sub (.t 71) (.t 72)⟩,
 ⟨some 74,none,false,.cmp .gtr (.t 69) (.t 73)⟩] (some [0,1,5,74])
def ir110_r15:IC:=.draw [(⟨some 76,none,false,.mv (.t 0)⟩,false,0,0),
 (⟨some 77,none,false,.mv (.t 0)⟩,false,0,0),
 (⟨some 78,none,false,.nilck (.t 77)⟩,false,2,0),
 (⟨some 79,none,false,.fad 0 (.t 78)⟩,false,6,0),
 (⟨some 80,none,false,.ldc (.t 79)⟩,false,14,1),
 (⟨some 81,none,false,.mv (.t 0)⟩,false,0,0),
 (⟨some 82,none,false,.nilck (.t 81)⟩,false,32,0),
 (⟨some 83,none,false,.fad 1 (.t 82)⟩,false,96,0),
 (⟨some 84,none,false,.ldc (.t 83)⟩,false,224,15),
 (⟨some 85,none,false,.gen (.slice 22 (.tmp 80) (some (.tmp 84)) none none)⟩,false,510,1),
 (⟨some 86,none,false,.mv (.t 0)⟩,false,0,0),
 (⟨some 87,none,false,.nilck (.t 86)⟩,false,1024,0),
 (⟨some 88,none,false,.fad 1 (.t 87)⟩,false,3072,0),
 (⟨some 89,none,false,.ldc (.t 88)⟩,false,7168,511),
 (⟨some 90,none,false,.mv (.t 1)⟩,false,0,0),
 (⟨some 91,none,false,.ar .add (.t 89) (.t 90)⟩,false,31744,0),
 (⟨some 92,none,false,.call (.f 130) [(.t 85),(.t 91)]⟩,true,65534,0),
 (⟨some 93,none,false,.nilck (.t 76)⟩,false,131071,0),
 (⟨some 94,none,false,.fad 0 (.t 93)⟩,false,262143,0),
 (⟨none,none,false,.st 1 (.t 94) (.t 92)⟩,true,524287,0)] (some [0,1,5])
def ir110_11:IC:=.cond (.t 74) .bad ir110_r15
def ir110_12:IC:=.seq ir110_r13 ir110_11
def ir110_13:IC:=.cond (.t 54) ir110_r12 ir110_12
def ir110_14:IC:=.seq ir110_r11 ir110_13
def ir110_r16:IC:=.reg [⟨some 95,none,false,.mv (.t 0)⟩,
 ⟨some 96,none,false,.nilck (.t 95)⟩,
 ⟨some 97,none,false,.fad 1 (.t 96)⟩,
 ⟨none,none,false,.st 1 (.t 97) (.k (.int .i64 0))⟩] (some [0,1,5])
def ir110_r17:IC:=.reg [⟨some 98,none,false,.mv (.t 0)⟩,
 ⟨some 99,none,false,.mv (.t 0)⟩,
 ⟨some 100,none,false,.nilck (.t 99)⟩,
 ⟨some 101,none,false,.fad 0 (.t 100)⟩,
 ⟨some 102,none,false,.ldc (.t 101)⟩,
 ⟨some 103,none,false,.mv (.t 5)⟩,
 ⟨some 104,none,false,.mv (.t 1)⟩,
 ⟨some 105,none,false,.ar .add (.t 103) (.t 104)⟩,
 ⟨some 106,none,false,.gen (.slice 22 (.tmp 102) none (some (.tmp 105)) none)⟩,
 ⟨some 107,none,false,.nilck (.t 98)⟩,
 ⟨some 108,none,false,.fad 0 (.t 107)⟩,
 ⟨none,none,false,.st 1 (.t 108) (.t 106)⟩] (some [5])
def ir110_r18:IC:=.reg [⟨some 109,none,false,.mv (.t 5)⟩,
 ⟨some 4,none,false,.mv (.t 109)⟩] (some [4])
def ir110_15:IC:=.seq ir110_r18 .ret
def ir110_16:IC:=.seq ir110_r17 ir110_15
def ir110_17:IC:=.seq ir110_r16 ir110_16
def ir110_18:IC:=.seq ir110_14 ir110_17
def ir110_19:IC:=.seq ir110_r10 ir110_18
def ir110_20:IC:=.seq ir110_10 ir110_19
def ir110_21:IC:=.seq ir110_6 ir110_20
def ir110_22:IC:=.seq ir110_2 ir110_21
def ir110_23:IC:=.seq ir110_r1 ir110_22
def ir110_24:IC:=.seq ir110_r0 ir110_23
def ir110:IC:=ir110_24
theorem fn110:FnIs Tryd.prog 110 ir110 110 [.tmp 4]:=⟨Tryd.f110,Tryd.f110.body.getD .skip,Tryd.func110,by kernel_rfl,by kernel_rfl,by kernel_rfl,by kernel_rfl⟩
def ir105_r0:IC:=.reg [⟨some 4,none,false,.mv (.k (.int .i64 0))⟩,
 ⟨some 5,none,false,.mv (.k .nilIface)⟩] (some [0,1])
def ir105_r1:IC:=.reg [⟨some 8,none,false,.mv (.t 0)⟩,
 ⟨some 9,none,false,.nilck (.t 8)⟩,
 ⟨some 10,none,false,.fad 2 (.t 9)⟩,
 ⟨none,none,false,.st 1 (.t 10) (.k (.int .i8 0))⟩] (some [0,1])
def ir105_r2:IC:=.reg [⟨some 12,none,false,.mv (.t 0)⟩,
 ⟨some 13,none,false,.mv (.t 1)⟩,
 ⟨some 14,none,false,.len (.t 13)⟩,
 ⟨some 15,none,false,.call (.f 109) [(.t 12),(.t 14)]⟩,
 ⟨some 11,none,false,.mv (.t 15)⟩,
 ⟨some 16,none,false,.ext (.t 11) 0⟩,
 ⟨some 17,none,false,.ext (.t 11) 1⟩,
 ⟨some 6,none,false,.mv (.t 16)⟩,
 ⟨some 7,none,false,.mv (.t 17)⟩] (some [0,1,6,7])
def ir105_r3:IC:=.reg [⟨some 18,none,false,.mv (.t 7)⟩,
 ⟨some 19,none,false,.not (.t 18)⟩] (some [0,1,6,19])
def ir105_r4:IC:=.reg [⟨some 20,none,false,.mv (.t 0)⟩,
 ⟨some 21,none,false,.mv (.t 1)⟩,
 ⟨some 22,none,false,.len (.t 21)⟩,
 ⟨some 23,none,false,.call (.f 110) [(.t 20),(.t 22)]⟩,
 ⟨some 6,none,false,.mv (.t 23)⟩] (some [0,1,6])
def ir105_1:IC:=.cond (.t 19) ir105_r4 .skip
def ir105_2:IC:=.seq ir105_r3 ir105_1
def ir105_r5:IC:=.reg [⟨some 24,none,false,.mv (.t 0)⟩,
 ⟨some 25,none,false,.nilck (.t 24)⟩,
 ⟨some 26,none,false,.fad 0 (.t 25)⟩,
 ⟨some 27,none,false,.ldc (.t 26)⟩,
 ⟨some 28,none,false,.mv (.t 6)⟩,
 ⟨some 29,none,false,.gen (.slice 22 (.tmp 27) (some (.tmp 28)) none none)⟩,
 ⟨some 30,none,false,.mv (.t 1)⟩,
 ⟨some 31,none,false,.bi .copy #[22,22] [(.t 29),(.t 30)]⟩,
 ⟨some 4,none,false,.mv (.t 31)⟩,
 ⟨some 5,none,false,.mv (.k .nilIface)⟩] (some [4,5])
def ir105_3:IC:=.seq ir105_r5 .ret
def ir105_4:IC:=.seq ir105_2 ir105_3
def ir105_5:IC:=.seq ir105_r2 ir105_4
def ir105_6:IC:=.seq ir105_r1 ir105_5
def ir105_7:IC:=.seq ir105_r0 ir105_6
def ir105:IC:=ir105_7
theorem fn105:FnIs Tryd.prog 105 ir105 32 [.tmp 4,.tmp 5]:=⟨Tryd.f105,Tryd.f105.body.getD .skip,Tryd.func105,by kernel_rfl,by kernel_rfl,by kernel_rfl,by kernel_rfl⟩
def ir63_r0:IC:=.reg [⟨some 2,none,false,.mv (.k (.slice none 0 0))⟩] (some [0])
def ir63_r1:IC:=.draw [(⟨some 3,none,false,.mv (.t 0)⟩,false,0,0),
 (⟨some 4,none,false,.nilck (.t 3)⟩,false,1,0),
 (⟨some 5,none,false,.fad 0 (.t 4)⟩,false,3,0),
 (⟨some 6,none,false,.ldc (.t 5)⟩,false,7,1),
 (⟨some 7,none,false,.mv (.t 0)⟩,false,0,0),
 (⟨some 8,none,false,.nilck (.t 7)⟩,false,16,0),
 (⟨some 9,none,false,.fad 1 (.t 8)⟩,false,48,0),
 (⟨some 10,none,false,.ldc (.t 9)⟩,false,112,8),
 (⟨some 11,none,false,.gen (.slice 22 (.tmp 6) (some (.tmp 10)) none none)⟩,true,255,0),
 (⟨some 2,none,false,.mv (.t 11)⟩,false,511,0)] (some [2])
def ir63_1:IC:=.seq ir63_r1 .ret
def ir63_2:IC:=.seq ir63_r0 ir63_1
def ir63:IC:=ir63_2
theorem fn63:FnIs Tryd.prog 63 ir63 12 [.tmp 2]:=⟨Tryd.f63,Tryd.f63.body.getD .skip,Tryd.func63,by kernel_rfl,by kernel_rfl,by kernel_rfl,by kernel_rfl⟩
def ir75_r0:IC:=.reg [⟨some 4,none,false,.alloc [(.int .u8 0),(.int .u8 0),(.int .u8 0),(.int .u8 0),(.int .u8 0),(.int .u8 0),(.int .u8 0),(.int .u8 0),(.int .u8 0)]⟩] (some [0,1,4])
def ir75_r1:IC:=.reg [⟨some 5,none,false,.mv (.k (.int .i64 8))⟩] (some [0,1,4,5])
def ir75_r2:IC:=.reg [⟨some 6,none,false,.mv (.t 5)⟩,
 ⟨some 7,none,false,.mv (.t 1)⟩,
 ⟨some 8,none,false,.bits .and (.t 7) (.k (.int .i64 127))⟩,
 ⟨some 9,none,false,.conv .u8 (.t 8)⟩,
 ⟨some 10,none,false,.iada 9 1 (.t 4) (.t 6)⟩,
 ⟨none,none,false,.st 1 (.t 10) (.t 9)⟩] (some [0,1,4,5])
def ir75_r3:IC:=.reg [⟨some 11,none,false,.mv (.t 1)⟩,
 ⟨some 12,none,false,.shf .shr (.t 11) (.k (.int .u64 7))⟩,
 ⟨some 1,none,false,.mv (.t 12)⟩] (some [0,1,4,5])
def ir75_r4:IC:=.reg [⟨some 13,none,false,.mv (.t 1)⟩,
 ⟨some 14,none,false,.cmp .gtr (.t 13) (.k (.int .i64 0))⟩] (some [0,1,4,5,14])
def ir75_1:IC:=.cond (.t 14) .skip (.exit 0)
def ir75_2:IC:=.seq ir75_r4 ir75_1
def ir75_r6:IC:=.reg [⟨some 17,none,false,.mv (.t 5)⟩,
 ⟨some 18,none,false,.ar .sub (.t 17) (.k (.int .i64 1))⟩,
 ⟨some 5,none,false,.mv (.t 18)⟩] (some [0,1,4,5])
def ir75_r7:IC:=.reg [⟨some 19,none,false,.mv (.t 5)⟩,
 ⟨some 20,none,false,.mv (.t 1)⟩,
 ⟨some 21,none,false,.bits .and (.t 20) (.k (.int .i64 127))⟩,
 ⟨some 22,none,false,.bits .or (.t 21) (.k (.int .i64 128))⟩,
 ⟨some 23,none,false,.conv .u8 (.t 22)⟩,
 ⟨some 24,none,false,.iada 9 1 (.t 4) (.t 19)⟩,
 ⟨none,none,false,.st 1 (.t 24) (.t 23)⟩] (some [0,1,4,5])
def ir75_3:IC:=.seq ir75_r6 ir75_r7
def ir75_4:IC:=.block 1 ir75_3
def ir75_r5:IC:=.reg [⟨some 15,none,false,.mv (.t 1)⟩,
 ⟨some 16,none,false,.shf .shr (.t 15) (.k (.int .u64 7))⟩,
 ⟨some 1,none,false,.mv (.t 16)⟩] (some [0,1,4,5])
def ir75_5:IC:=.seq ir75_4 ir75_r5
def ir75_6:IC:=.seq ir75_2 ir75_5
def ir75_7:IC:=.loop ir75_6
def ir75_8:IC:=.block 0 ir75_7
def ir75_9:IC:=.seq ir75_r3 ir75_8
def ir75_r8:IC:=.draw [(⟨some 25,none,false,.mv (.t 0)⟩,false,0,0),
 (⟨some 26,none,false,.nilck (.t 25)⟩,false,1,0),
 (⟨some 27,none,false,.fad 0 (.t 26)⟩,false,3,0),
 (⟨some 28,none,false,.mv (.t 5)⟩,false,0,0),
 (⟨some 29,none,false,.gen (.slice 172 (.tmp 4) (some (.tmp 28)) none none)⟩,true,8,0),
 (⟨some 30,none,false,.call (.f 105) [(.t 27),(.t 29)]⟩,true,31,0)] (some [])
def ir75_10:IC:=.seq ir75_9 ir75_r8
def ir75_11:IC:=.seq ir75_r2 ir75_10
def ir75_12:IC:=.seq ir75_r1 ir75_11
def ir75_13:IC:=.seq ir75_r0 ir75_12
def ir75:IC:=ir75_13
theorem fn75:FnIs Tryd.prog 75 ir75 31 []:=⟨Tryd.f75,Tryd.f75.body.getD .skip,Tryd.func75,by kernel_rfl,by kernel_rfl,by kernel_rfl,by kernel_rfl⟩
section
variable {T:List (Option AObj)} {m:Nat}
theorem gen_nil0 {w:Bool} {s:Nat} {l:Fr} {h:AH} {K:Value→AH→Prop} (hl:lk l s = some (.slice none 0 0)) (q:K (.bool true) h):iStep Tryd.prog w (.gen (.binOp .eql 22 (.tmp s) (.const (.slice none 0 0)) 22)) l h K:=by
 refine ⟨_,_,?_,q⟩
 have e1:aEnv (trOf l) (.tmp s) = some (.slice none 0 0):=by simp only [aEnv,trOf_get,hl]
 have e2:aEnv (trOf l) (.const (.slice none 0 0)) = some (.slice none 0 0):=rfl
 exact op_bin e1 e2 rfl rfl rfl (by kernel_rfl)
theorem z64:(List.replicate 64 [Value.int .u8 0]).flatten = rows eB (List.replicate 64 0):=rfl
end
theorem u_a9:Tryd.prog.underlying 172 = some (.array 9 5):=by kernel_rfl
end Go.Proofs.YtgjokhodccacoaaDoor
