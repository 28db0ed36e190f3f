import Derived.Test.YtgjokhodccacoaaDoorSRecF2
import Derived.Test.YtgjokhodccacoaaDoorSRecE2
set_option linter.unusedSimpArgs false
set_option linter.unusedVariables false
namespace Go.Vm
open Go Go.RowKit
theorem cells_all {wl k sz m:Nat} {op:Bool} {M:List (Option AObj)} {cs:List Value} (h:M[k]? = some (some (.cells ⟨cs,sz,op⟩))) (hl:cs.length = m):cellsAt (Hp wl M) k 0 m = some cs:=by
 unfold cellsAt
 rw [show (Hp wl M).get k = some (.cells ⟨cs,sz,op⟩) from get_hq rfl (by rw [h]; rfl)]
 simp only [List.drop_zero,List.take_of_length_le (show cs.length≤m by omega)]
 exact if_pos (by omega)
def Rw (b:Nat) (M:List (Option AObj)) (k c n sz:Nat) (cs:List Value):Prop:=b≤k∧cs.length = n * sz∧∃ op,M[k]? = some (some (.cells ⟨cs,sz,op⟩))∧((c = openB∧op = true)∨(c = 0∧n = 0))
theorem Rw.lt {b:Nat} {M:List (Option AObj)} {k c n sz:Nat} {cs:List Value} (h:Rw b M k c n sz cs):k < M.length:=by
 obtain ⟨_,_,_,h,_⟩:=h
 exact get_lt h
theorem Rw.mono {b:Nat} {M M' : List (Option AObj)} {k c n sz:Nat} {cs:List Value} (h:Rw b M k c n sz cs) (e:M'[k]? = M[k]?):Rw b M' k c n sz cs:=by
 obtain ⟨h1,h2,op,h3,h4⟩:=h
 exact ⟨h1,h2,op,by rw [e]; exact h3,h4⟩
theorem Rw.app {b wl : Nat} {M : List (Option AObj)} {k c n sz ne bytes k2 o2 c2 : Nat} {cs new : List Value} {K : Value → AH → Prop} (h : Rw b M k c n sz cs) (hb : wl ≤ b) (hs : cellsAt (Hp wl M) k2 o2 (ne * sz) = some new) (hne : ne ≠ 0) (hnl : new.length = ne * sz) (hbd : (2 * (n + ne) + 1024) * bytes ≤ 281474976710656) (h1 : new.all Value.oneCell' = true) (hbM : b ≤ M.length)
    (q : ∀ M',M'.length = M.length + 1→(∀ j,j≠k→j < M.length→M'[j]? = M[j]?)→Rw b M' M.length openB (n + ne) sz (cs++new)→K (.slice (some ⟨M.length,0,none⟩) (n + ne) openB) (Hp wl M')) :
    appK (Hp wl M) sz bytes (.slice (some ⟨k,0,none⟩) n c) (.slice (some ⟨k2,o2,none⟩) ne c2) K:=by
 obtain ⟨h2,h3,op,h4,h5⟩:=h
 have hk:=get_lt h4
 have hlen:(cs++new).length = (n + ne) * sz:=by rw [List.length_append,h3,hnl,Nat.add_mul]
 rcases h5 with ⟨rfl,rfl⟩|⟨rfl,rfl⟩
 ·rw [appK_o rfl (by rw [h4]; rfl) h3 hne,show cellsAt (Hq wl [] M) k2 o2 (ne * sz) = some new from hs]
  show chk _ _
  unfold chk
  refine ⟨⟨by omega,hbd⟩,h1,q _ (by rw [List.length_set,List.length_append]; rfl) (fun j hj hl=>?_) ⟨hbM,hlen,true,?_,.inl ⟨rfl,rfl⟩⟩⟩
  ·rw [List.getElem?_set_ne (by omega),List.getElem?_append_left hl]
  ·rw [List.getElem?_set_ne (by omega),List.getElem?_append_right (Nat.le_refl _),Nat.sub_self]
   rfl
 ·have e0:cs = []:=List.eq_nil_of_length_eq_zero (by rw [h3,Nat.zero_mul])
  subst e0
  rw [appK_e (by unfold sCells; exact if_pos rfl) hne,show cellsAt (Hq wl [] M) k2 o2 (ne * sz) = some new from hs]
  show chk _ _
  unfold chk
  rw [Nat.zero_add] at hbd q hlen
  refine ⟨hbd,q _ (by rw [List.length_append]; rfl) (fun j hj hl=>?_) ⟨hbM,hlen,true,?_,.inl ⟨rfl,rfl⟩⟩⟩
  ·rw [List.getElem?_append_left hl]
  ·rw [List.getElem?_append_right (Nat.le_refl _),Nat.sub_self]
   rfl
end Go.Vm
namespace Go.Proofs.YtgjokhodccacoaaDoor
open Go.RowKit Go.Vm
set_option maxRecDepth 100000
def gvF (f:PF):List (Nat×List Int):=if putE f.1 f.2.1.length = 0 then [(f.1.toNat,f.2.1)] else []
def gv (fs:List PF):List (Nat×List Int):=fs.flatMap gvF
def endsF:Nat→List (Nat×List Int)→List Int
 | _,[]=>[]
 | o,v :: r=>((o + (frB v.1 v.2).length:Nat):Int) :: endsF (o + (frB v.1 v.2).length) r
theorem gv_drop {fs:List PF} {i:Nat} {f:PF} (h:fs[i]? = some f):gv (fs.drop i) = gvF f++gv (fs.drop (i + 1)):=by
 have hlt:=(List.getElem?_eq_some_iff.1 h).1
 rw [List.drop_eq_getElem_cons hlt,(List.getElem?_eq_some_iff.1 h).2]
 unfold gv
 rw [List.flatMap_cons]
theorem gv_ok {fs:List PF} (h : ∀ f∈fs,isB f.2.1∧f.2.1.length≤10000) : ∀ v∈gv fs,okV' v:=by
 intro v hv
 obtain ⟨f,hf,hv⟩:=List.mem_flatMap.1 hv
 unfold gvF at hv
 split at hv
 ·rename_i he
  simp only [List.mem_singleton] at hv
  subst hv
  have hk:1≤f.1∧f.1≤250:=by
   unfold putE at he
   split at he
   ·omega
   ·omega
  exact ⟨by show 1≤f.1.toNat; omega,by show f.1.toNat≤250; omega,(h f hf).2,(h f hf).1⟩
 ·cases hv
theorem ends_len : ∀ {vs:List (Nat×List Int)} {o:Nat},(endsF o vs).length = vs.length
 | [],_=>rfl
 | v :: r,o=>by
  show (endsF _ r).length + 1 = r.length + 1
  rw [ends_len]
theorem fnd_len : ∀ {vs:List (Nat×List Int)} {o:Nat},(fnd o vs).length = vs.length
 | [],_=>rfl
 | v :: r,o=>by
  show (fnd _ r).length + 1 = r.length + 1
  rw [fnd_len]
theorem fnd_ends : ∀ {vs:List (Nat×List Int)} {o i:Nat},i < vs.length→(nth (fnd o vs) i).1 + (nth (fnd o vs) i).2.1 = nth (endsF o vs) i
 | [],_,_,h=>by cases h
 | v :: r,o,0,_=>by
  show (o:Int) + ((frB v.1 v.2).length:Int) = ((o + (frB v.1 v.2).length:Nat):Int)
  omega
 | v :: r,o,i + 1,h=>by
  have:=fnd_ends (vs:=r) (o:=o + (frB v.1 v.2).length) (i:=i) (by simpa using h)
  exact this
theorem ends_cat : ∀ {vs:List (Nat×List Int)} {o i:Nat},i < vs.length→nth (endsF o vs) i = ((o + (catF (vs.take (i + 1))).length:Nat):Int)
 | [],_,_,h=>by cases h
 | v :: r,o,0,_=>by
  show ((o + (frB v.1 v.2).length:Nat):Int) = _
  rw [List.take_succ_cons,catF_cons,List.take_zero]
  simp [catF]
 | v :: r,o,i + 1,h=>by
  have:=ends_cat (vs:=r) (o:=o + (frB v.1 v.2).length) (i:=i) (by simpa using h)
  show nth (endsF (o + (frB v.1 v.2).length) r) i = _
  rw [this,List.take_succ_cons,catF_cons,List.length_append,Nat.add_assoc]
theorem catF_append {a b:List (Nat×List Int)}:catF (a++b) = catF a++catF b:=by unfold catF; rw [List.flatMap_append]
theorem fnd_append : ∀ {a b:List (Nat×List Int)} {o:Nat},fnd o (a++b) = fnd o a++fnd (o + (catF a).length) b
 | [],b,o=>rfl
 | v :: r,b,o=>by
  show _ :: fnd _ (r++b) = _ :: (fnd _ r++_)
  rw [fnd_append,catF_cons,List.length_append,Nat.add_assoc]
theorem ends_bd {vs:List (Nat×List Int)} (hl:(catF vs).length≤30000) {i:Nat} (hi:i < vs.length):0≤nth (endsF 0 vs) i∧nth (endsF 0 vs) i≤30000:=by
 rw [ends_cat hi]
 have hs:vs.take (i + 1)++vs.drop (i + 1) = vs:=List.take_append_drop _ _
 have:=congrArg (fun l=>(catF l).length) hs
 simp only [catF_append,List.length_append] at this
 omega
theorem found_before {vs:List (Nat×List Int)} (h : ∀ v∈vs,okV' v) {at_ i:Nat} {y:Int} (hy:0≤y∧y≤255) (hl:(catF vs).length≤30000) (hi:i < vs.length) (he:nth (endsF 0 vs) i≤at_):i < (scF ((catF vs).set at_ y)).length∧(nth (scF ((catF vs).set at_ y)) i).1 + (nth (scF ((catF vs).set at_ y)) i).2.1 = nth (endsF 0 vs) i:=by
 have hc:=ends_cat (o:=0) hi
 rw [Nat.zero_add] at hc
 have hs:vs.take (i + 1)++vs.drop (i + 1) = vs:=List.take_append_drop _ _
 have ht : ∀ v∈vs.take (i + 1),okV' v:=fun v hv=>h v (List.mem_of_mem_take hv)
 have hd : ∀ v∈vs.drop (i + 1),okV' v:=fun v hv=>h v (List.mem_of_mem_drop hv)
 have e:(catF vs).set at_ y = catF (vs.take (i + 1))++(catF (vs.drop (i + 1))).set (at_ - (catF (vs.take (i + 1))).length) y:=by
  conv=>lhs; rw [← hs,catF_append]
  rw [List.set_append_right _ _ (by omega)]
 have hz:isB ((catF (vs.drop (i + 1))).set (at_ - (catF (vs.take (i + 1))).length) y):=fun x hx=>by
  rcases List.mem_or_eq_of_mem_set hx with hx|rfl
  ·exact catF_isB hd x hx
  ·exact hy
 have hll:(catF (vs.take (i + 1))++(catF (vs.drop (i + 1))).set (at_ - (catF (vs.take (i + 1))).length) y).length≤30000:=by
  rw [← e,List.length_set]
  exact hl
 obtain ⟨G,hG⟩:=scan_ahead ht hz hll
 have hlen:(fnd 0 (vs.take (i + 1))).length = i + 1:=by rw [fnd_len,List.length_take]; omega
 have hf:fnd 0 vs = fnd 0 (vs.take (i + 1))++fnd (0 + (catF (vs.take (i + 1))).length) (vs.drop (i + 1)):=by
  rw [← fnd_append,hs]
 have n1:nth (scF ((catF vs).set at_ y)) i = nth (fnd 0 vs) i:=by
  rw [e,hG,hf]
  unfold nth
  rw [List.getD_eq_getElem?_getD,List.getD_eq_getElem?_getD,List.getElem?_append_left (by omega),List.getElem?_append_left (by omega)]
 refine ⟨by rw [e,hG,List.length_append]; omega,?_⟩
 rw [n1]
 exact fnd_ends hi
structure FS where
 i:Nat
 bs:List Int
 es:List Int
 ka:Nat
 ca:Nat
 ke:Nat
 ce:Nat
 M:List (Option AObj)
structure FI (fs:List PF) (L1:List (Option AObj)) (s:FS):Prop where
 le:s.i≤fs.length
 old : ∀ j,j < L1.length→s.M[j]? = L1[j]?
 ra:Rw L1.length s.M s.ka s.ca s.bs.length 1 (rows eB s.bs)
 re:Rw L1.length s.M s.ke s.ce s.es.length 1 (rows eN s.es)
 ne:s.ka≠s.ke
 tot:s.bs++catF (gv (fs.drop s.i)) = catF (gv fs)
 ends:s.es++endsF s.bs.length (gv (fs.drop s.i)) = endsF 0 (gv fs)
 bl:s.bs.length≤50 * s.i
 el:s.es.length≤s.i
 small : ∀ j f,fs[j]? = some f→j < s.i→f.2.1.length≤30
 len:L1.length≤s.M.length
abbrev frF1 (n c x:Nat) (s:FS):Fr:=[(0,.slice (some ⟨n + 1,0,none⟩) n c),(3,pt x),(5,.slice (some ⟨s.ka,0,none⟩) s.bs.length s.ca),(6,.slice (some ⟨s.ke,0,none⟩) s.es.length s.ce),(7,.int .i64 s.i)]
def ir11_r0:IC:=.reg [⟨some 3,none,false,.box (.t 1)⟩,
 ⟨some 4,none,false,.mv (.k (.bool false))⟩] (some [0,3])
def ir11_r1:IC:=.reg [⟨some 17,none,false,.mv (.t 0)⟩,
 ⟨some 18,none,false,.len (.t 17)⟩,
 ⟨some 19,none,false,.cmp .gtr (.t 18) (.k (.int .i64 12))⟩] (some [0,3,19])
def ir11_r2:IC:=.reg [⟨some 20,none,false,.call (.f 19) []⟩,
 ⟨some 4,none,false,.mv (.t 20)⟩] (some [4])
def ir11_1:IC:=.seq ir11_r2 .ret
def ir11_2:IC:=.cond (.t 19) ir11_1 .skip
def ir11_3:IC:=.seq ir11_r1 ir11_2
def ir11_r3:IC:=.reg [⟨some 21,none,false,.bsl 1 0 [] []⟩,
 ⟨some 22,none,false,.bsl 1 0 [] []⟩,
 ⟨some 5,none,false,.mv (.t 21)⟩,
 ⟨some 6,none,false,.mv (.t 22)⟩] (some [0,3,5,6])
def ir11_r4:IC:=.reg [⟨some 7,none,false,.mv (.k (.int .i64 0))⟩] (some [0,3,5,6,7])
def ir11_r5:IC:=.reg [⟨some 23,none,false,.mv (.t 7)⟩,
 ⟨some 24,none,false,.mv (.t 0)⟩,
 ⟨some 25,none,false,.len (.t 24)⟩,
 ⟨some 26,none,false,.cmp .lss (.t 23) (.t 25)⟩] (some [0,3,5,6,7,26])
def ir11_4:IC:=.cond (.t 26) .skip (.exit 0)
def ir11_5:IC:=.seq ir11_r5 ir11_4
def ir11_r7:IC:=.reg [⟨some 29,none,false,.mv (.t 0)⟩,
 ⟨some 30,none,false,.mv (.t 7)⟩,
 ⟨some 31,none,false,.iad 2 (.t 29) (.t 30)⟩,
 ⟨some 32,none,false,.fad 1 (.t 31)⟩,
 ⟨some 33,none,false,.ldc (.t 32)⟩,
 ⟨some 34,none,false,.len (.t 33)⟩,
 ⟨some 35,none,false,.cmp .gtr (.t 34) (.k (.int .i64 30))⟩] (some [0,3,5,6,7,35])
def ir11_r8:IC:=.reg [⟨some 36,none,false,.call (.f 19) []⟩,
 ⟨some 4,none,false,.mv (.t 36)⟩] (some [4])
def ir11_6:IC:=.seq ir11_r8 .ret
def ir11_7:IC:=.cond (.t 35) ir11_6 .skip
def ir11_8:IC:=.seq ir11_r7 ir11_7
def ir11_r9:IC:=.draw [(⟨some 38,none,false,.mv (.t 0)⟩,false,0,0),
 (⟨some 39,none,false,.mv (.t 7)⟩,false,0,0),
 (⟨some 40,none,false,.iad 2 (.t 38) (.t 39)⟩,false,3,0),
 (⟨some 41,none,false,.fad 0 (.t 40)⟩,false,7,0),
 (⟨some 42,none,false,.ldc (.t 41)⟩,false,15,1),
 (⟨some 43,none,false,.mv (.t 0)⟩,false,0,0),
 (⟨some 44,none,false,.mv (.t 7)⟩,false,0,0),
 (⟨some 45,none,false,.iad 2 (.t 43) (.t 44)⟩,false,96,0),
 (⟨some 46,none,false,.fad 1 (.t 45)⟩,false,224,0),
 (⟨some 47,none,false,.ldc (.t 46)⟩,false,480,16),
 (⟨some 48,none,false,.call (.f 20) [(.t 47)]⟩,false,992,16),
 (⟨some 49,none,false,.bld [(.int .i64 0),(.slice none 0 0)] [(0,1,(.t 42)),(1,1,(.t 48))]⟩,false,2047,0),
 (⟨some 50,none,false,.call (.f 22) [(.t 49)]⟩,true,4095,0),
 (⟨some 37,none,false,.mv (.t 50)⟩,false,8191,0),
 (⟨some 51,none,false,.ext (.t 37) 0⟩,false,16383,0),
 (⟨some 52,none,false,.ext (.t 37) 1⟩,false,16383,0),
 (⟨some 8,none,false,.mv (.t 51)⟩,false,32767,0),
 (⟨some 9,none,false,.mv (.t 52)⟩,false,131071,0)] (some [0,3,5,6,7,8,9])
def ir11_r10:IC:=.reg [⟨some 53,none,false,.mv (.t 9)⟩,
 ⟨some 54,none,false,.cmp .eql (.t 53) (.k (.int .i64 0))⟩] (some [0,3,5,6,7,8,54])
def ir11_r11:IC:=.reg [⟨some 55,none,false,.mv (.t 5)⟩,
 ⟨some 56,none,false,.mv (.t 8)⟩,
 ⟨some 57,none,false,.app 1 1 (.t 55) (.t 56)⟩,
 ⟨some 5,none,false,.mv (.t 57)⟩] (some [0,3,5,6,7])
def ir11_r12:IC:=.reg [⟨some 58,none,false,.mv (.t 6)⟩,
 ⟨some 59,none,false,.mv (.t 5)⟩,
 ⟨some 60,none,false,.len (.t 59)⟩,
 ⟨some 61,none,false,.bsl 1 1 [(.int .i64 0)] [(0,(.t 60))]⟩,
 ⟨some 62,none,false,.app 1 8 (.t 58) (.t 61)⟩,
 ⟨some 6,none,false,.mv (.t 62)⟩] (some [0,3,5,6,7])
def ir11_9:IC:=.seq ir11_r11 ir11_r12
def ir11_10:IC:=.cond (.t 54) ir11_9 .skip
def ir11_11:IC:=.seq ir11_r10 ir11_10
def ir11_12:IC:=.seq ir11_r9 ir11_11
def ir11_13:IC:=.seq ir11_8 ir11_12
def ir11_14:IC:=.block 1 ir11_13
def ir11_r6:IC:=.reg [⟨some 27,none,false,.mv (.t 7)⟩,
 ⟨some 28,none,false,.ar .add (.t 27) (.k (.int .i64 1))⟩,
 ⟨some 7,none,false,.mv (.t 28)⟩] (some [0,3,5,6,7])
def ir11_15:IC:=.seq ir11_14 ir11_r6
def ir11_16:IC:=.seq ir11_5 ir11_15
def ir11_17:IC:=.loop ir11_16
def ir11_18:IC:=.block 0 ir11_17
def ir11_19:IC:=.seq ir11_r4 ir11_18
def ir11_r13:IC:=.reg [⟨some 64,none,false,.mv (.t 5)⟩,
 ⟨some 65,none,false,.call (.f 20) [(.t 64)]⟩,
 ⟨some 66,none,false,.call (.f 27) [(.t 65)]⟩,
 ⟨some 63,none,false,.mv (.t 66)⟩,
 ⟨some 67,none,false,.ext (.t 63) 0⟩,
 ⟨some 68,none,false,.ext (.t 63) 1⟩,
 ⟨some 69,none,false,.ext (.t 63) 2⟩,
 ⟨some 10,none,false,.mv (.t 67)⟩,
 ⟨some 11,none,false,.mv (.t 68)⟩,
 ⟨some 12,none,false,.mv (.t 69)⟩] (some [3,5,6,10,11,12])
def ir11_r14:IC:=.reg [⟨some 70,none,false,.mv (.t 12)⟩,
 ⟨some 71,none,false,.cmp .neq (.t 70) (.k (.int .i64 0))⟩,
 ⟨some 72,none,false,.mv (.t 71)⟩,
 ⟨some 73,some (72,false),false,.mv (.t 10)⟩,
 ⟨some 74,some (72,false),false,.len (.t 73)⟩,
 ⟨some 75,some (72,false),false,.mv (.t 6)⟩,
 ⟨some 76,some (72,false),false,.len (.t 75)⟩,
 ⟨some 77,some (72,false),false,.cmp .neq (.t 74) (.t 76)⟩,
 ⟨some 78,none,false,.pick (.t 72) (.k (.bool true)) (.t 77)⟩,
 ⟨some 79,none,false,.mv (.t 78)⟩,
 ⟨some 80,some (79,false),false,.mv (.t 11)⟩,
 ⟨some 81,some (79,false),false,.len (.t 80)⟩,
 ⟨some 82,some (79,false),false,.cmp .neq (.t 81) (.k (.int .i64 0))⟩,
 ⟨some 83,none,false,.pick (.t 79) (.k (.bool true)) (.t 82)⟩] (some [3,5,6,10,83])
def ir11_r15:IC:=.reg [⟨some 4,none,false,.mv (.k (.bool false))⟩] (some [4])
def ir11_20:IC:=.seq ir11_r15 .ret
def ir11_21:IC:=.cond (.t 83) ir11_20 .skip
def ir11_22:IC:=.seq ir11_r14 ir11_21
def ir11_r16:IC:=.reg [⟨some 13,none,false,.mv (.k (.int .i64 0))⟩] (some [3,5,6,10,13])
def ir11_r17:IC:=.reg [⟨some 84,none,false,.mv (.t 13)⟩,
 ⟨some 85,none,false,.mv (.t 10)⟩,
 ⟨some 86,none,false,.len (.t 85)⟩,
 ⟨some 87,none,false,.cmp .lss (.t 84) (.t 86)⟩] (some [3,5,6,10,13,87])
def ir11_23:IC:=.cond (.t 87) .skip (.exit 2)
def ir11_24:IC:=.seq ir11_r17 ir11_23
def ir11_r19:IC:=.draw [(⟨some 90,none,false,.mv (.t 10)⟩,false,0,0),
 (⟨some 91,none,false,.mv (.t 13)⟩,false,0,0),
 (⟨some 92,none,false,.iad 3 (.t 90) (.t 91)⟩,false,3,0),
 (⟨some 93,none,false,.fad 0 (.t 92)⟩,false,7,0),
 (⟨some 94,none,false,.ldc (.t 93)⟩,false,15,1),
 (⟨some 95,none,false,.mv (.t 10)⟩,false,0,0),
 (⟨some 96,none,false,.mv (.t 13)⟩,false,0,0),
 (⟨some 97,none,false,.iad 3 (.t 95) (.t 96)⟩,false,96,0),
 (⟨some 98,none,false,.fad 1 (.t 97)⟩,false,224,0),
 (⟨some 99,none,false,.ldc (.t 98)⟩,false,480,16),
 (⟨some 100,none,false,.ar .add (.t 94) (.t 99)⟩,false,1023,0),
 (⟨some 101,none,false,.mv (.t 6)⟩,false,0,0),
 (⟨some 102,none,false,.mv (.t 13)⟩,false,0,0),
 (⟨some 103,none,false,.iad 1 (.t 101) (.t 102)⟩,false,6144,0),
 (⟨some 104,none,false,.ldc (.t 103)⟩,false,14336,496),
 (⟨some 105,none,false,.cmp .neq (.t 100) (.t 104)⟩,false,32767,0)] (some [3,5,6,10,13,105])
def ir11_r20:IC:=.reg [⟨some 4,none,false,.mv (.k (.bool false))⟩] (some [4])
def ir11_25:IC:=.seq ir11_r20 .ret
def ir11_26:IC:=.cond (.t 105) ir11_25 .skip
def ir11_27:IC:=.seq ir11_r19 ir11_26
def ir11_28:IC:=.block 3 ir11_27
def ir11_r18:IC:=.reg [⟨some 88,none,false,.mv (.t 13)⟩,
 ⟨some 89,none,false,.ar .add (.t 88) (.k (.int .i64 1))⟩,
 ⟨some 13,none,false,.mv (.t 89)⟩] (some [3,5,6,10,13])
def ir11_29:IC:=.seq ir11_28 ir11_r18
def ir11_30:IC:=.seq ir11_24 ir11_29
def ir11_31:IC:=.loop ir11_30
def ir11_32:IC:=.block 2 ir11_31
def ir11_33:IC:=.seq ir11_r16 ir11_32
def ir11_r21:IC:=.reg [⟨some 106,none,false,.mv (.t 5)⟩,
 ⟨some 107,none,false,.len (.t 106)⟩,
 ⟨some 108,none,false,.cmp .eql (.t 107) (.k (.int .i64 0))⟩] (some [3,5,6,108])
def ir11_r22:IC:=.reg [⟨some 109,none,false,.call (.f 19) []⟩,
 ⟨some 4,none,false,.mv (.t 109)⟩] (some [4])
def ir11_34:IC:=.seq ir11_r22 .ret
def ir11_35:IC:=.cond (.t 108) ir11_34 .skip
def ir11_36:IC:=.seq ir11_r21 ir11_35
def ir11_r23:IC:=.reg [⟨some 110,none,false,.fad 0 (.t 3)⟩,
 ⟨some 111,none,false,.ldc (.t 110)⟩,
 ⟨some 112,none,false,.conv .i64 (.t 111)⟩,
 ⟨some 113,none,false,.mv (.t 5)⟩,
 ⟨some 114,none,false,.len (.t 113)⟩,
 ⟨some 115,none,false,.div .rem (.t 112) (.t 114)⟩,
 ⟨some 14,none,false,.mv (.t 115)⟩] (some [3,5,6,14])
def ir11_r24:IC:=.reg [⟨some 116,none,false,.mv (.t 5)⟩,
 ⟨some 117,none,false,.call (.f 20) [(.t 116)]⟩,
 ⟨some 15,none,false,.mv (.t 117)⟩] (some [3,6,14,15])
def ir11_r25:IC:=.draw [(⟨some 118,none,false,.mv (.t 15)⟩,false,0,0),
 (⟨some 119,none,false,.mv (.t 14)⟩,false,0,0),
 (⟨some 120,none,false,.iad 1 (.t 118) (.t 119)⟩,false,3,0),
 (⟨some 121,none,false,.ldc (.t 120)⟩,false,7,1),
 (⟨some 122,none,false,.fad 1 (.t 3)⟩,false,0,0),
 (⟨some 123,none,false,.ldc (.t 122)⟩,false,16,8),
 (⟨some 124,none,true,.conv .u8 (.t 123)⟩,false,48,0),
 (⟨some 125,none,false,.bits .xor (.t 121) (.t 124)⟩,false,127,0),
 (⟨some 126,none,false,.iad 1 (.t 118) (.t 119)⟩,false,255,0),
 (⟨none,none,false,.st 1 (.t 126) (.t 125)⟩,true,511,0)] (some [6,14,15])
def ir11_r26:IC:=.reg [⟨some 128,none,false,.mv (.t 15)⟩,
 ⟨some 129,none,false,.call (.f 20) [(.t 128)]⟩,
 ⟨some 130,none,false,.call (.f 27) [(.t 129)]⟩,
 ⟨some 127,none,false,.mv (.t 130)⟩,
 ⟨some 131,none,false,.ext (.t 127) 0⟩,
 ⟨some 132,none,false,.ext (.t 127) 1⟩,
 ⟨some 133,none,false,.ext (.t 127) 2⟩,
 ⟨some 10,none,false,.mv (.t 131)⟩,
 ⟨some 11,none,false,.mv (.t 132)⟩,
 ⟨some 12,none,false,.mv (.t 133)⟩] (some [6,10,11,12,14,15])
def ir11_r27:IC:=.reg [⟨some 134,none,false,.mv (.t 12)⟩,
 ⟨some 135,none,false,.cmp .neq (.t 134) (.k (.int .i64 0))⟩] (some [6,10,11,14,15,135])
def ir11_r28:IC:=.reg [⟨some 4,none,false,.mv (.k (.bool false))⟩] (some [4])
def ir11_37:IC:=.seq ir11_r28 .ret
def ir11_38:IC:=.cond (.t 135) ir11_37 .skip
def ir11_39:IC:=.seq ir11_r27 ir11_38
def ir11_r29:IC:=.reg [⟨some 16,none,false,.mv (.k (.int .i64 0))⟩] (some [6,10,11,14,15,16])
def ir11_r30:IC:=.reg [⟨some 136,none,false,.mv (.t 16)⟩,
 ⟨some 137,none,false,.mv (.t 6)⟩,
 ⟨some 138,none,false,.len (.t 137)⟩,
 ⟨some 139,none,false,.cmp .lss (.t 136) (.t 138)⟩,
 ⟨some 140,none,false,.mv (.t 139)⟩,
 ⟨some 141,some (140,true),false,.mv (.t 6)⟩,
 ⟨some 142,some (140,true),false,.mv (.t 16)⟩,
 ⟨some 143,some (140,true),false,.iad 1 (.t 141) (.t 142)⟩,
 ⟨some 144,some (140,true),false,.ldc (.t 143)⟩,
 ⟨some 145,some (140,true),false,.mv (.t 14)⟩,
 ⟨some 146,some (140,true),false,.cmp .leq (.t 144) (.t 145)⟩,
 ⟨some 147,none,false,.pick (.t 140) (.t 146) (.k (.bool false))⟩] (some [6,10,11,14,15,16,147])
def ir11_40:IC:=.cond (.t 147) .skip (.exit 4)
def ir11_41:IC:=.seq ir11_r30 ir11_40
def ir11_r32:IC:=.draw [(⟨some 150,none,false,.mv (.t 16)⟩,false,0,0),
 (⟨some 151,none,false,.mv (.t 10)⟩,false,0,0),
 (⟨some 152,none,false,.len (.t 151)⟩,true,2,0),
 (⟨some 153,none,false,.cmp .geq (.t 150) (.t 152)⟩,false,7,0),
 (⟨some 154,none,false,.mv (.t 153)⟩,false,15,0),
 (⟨some 155,some (154,false),false,.mv (.t 10)⟩,false,31,0),
 (⟨some 156,some (154,false),false,.mv (.t 16)⟩,false,31,0),
 (⟨some 157,some (154,false),false,.iad 3 (.t 155) (.t 156)⟩,false,127,0),
 (⟨some 158,some (154,false),false,.fad 0 (.t 157)⟩,false,255,0),
 (⟨some 159,some (154,false),false,.ldc (.t 158)⟩,false,511,1),
 (⟨some 160,some (154,false),false,.mv (.t 10)⟩,false,31,0),
 (⟨some 161,some (154,false),false,.mv (.t 16)⟩,false,31,0),
 (⟨some 162,some (154,false),false,.iad 3 (.t 160) (.t 161)⟩,false,3103,0),
 (⟨some 163,some (154,false),false,.fad 1 (.t 162)⟩,false,7199,0),
 (⟨some 164,some (154,false),false,.ldc (.t 163)⟩,false,15391,512),
 (⟨some 165,some (154,false),false,.ar .add (.t 159) (.t 164)⟩,false,32767,0),
 (⟨some 166,some (154,false),false,.mv (.t 6)⟩,false,31,0),
 (⟨some 167,some (154,false),false,.mv (.t 16)⟩,false,31,0),
 (⟨some 168,some (154,false),false,.iad 1 (.t 166) (.t 167)⟩,false,196639,0),
 (⟨some 169,some (154,false),false,.ldc (.t 168)⟩,false,458783,15872),
 (⟨some 170,some (154,false),false,.cmp .neq (.t 165) (.t 169)⟩,false,1048575,0),
 (⟨some 171,none,false,.pick (.t 154) (.k (.bool true)) (.t 170)⟩,false,2097151,0)] (some [6,10,11,14,15,16,171])
def ir11_r33:IC:=.reg [⟨some 4,none,false,.mv (.k (.bool false))⟩] (some [4])
def ir11_42:IC:=.seq ir11_r33 .ret
def ir11_43:IC:=.cond (.t 171) ir11_42 .skip
def ir11_44:IC:=.seq ir11_r32 ir11_43
def ir11_45:IC:=.block 5 ir11_44
def ir11_r31:IC:=.reg [⟨some 148,none,false,.mv (.t 16)⟩,
 ⟨some 149,none,false,.ar .add (.t 148) (.k (.int .i64 1))⟩,
 ⟨some 16,none,false,.mv (.t 149)⟩] (some [6,10,11,14,15,16])
def ir11_46:IC:=.seq ir11_45 ir11_r31
def ir11_47:IC:=.seq ir11_41 ir11_46
def ir11_48:IC:=.loop ir11_47
def ir11_49:IC:=.block 4 ir11_48
def ir11_50:IC:=.seq ir11_r29 ir11_49
def ir11_r34:IC:=.reg [⟨some 172,none,false,.mv (.t 15)⟩,
 ⟨some 173,none,false,.mv (.t 10)⟩,
 ⟨some 174,none,false,.mv (.t 11)⟩,
 ⟨some 175,none,false,.call (.f 47) [(.t 172),(.t 173),(.t 174)]⟩,
 ⟨some 176,none,false,.mv (.t 175)⟩,
 ⟨some 177,some (176,true),false,.call (.f 19) []⟩,
 ⟨some 178,none,false,.pick (.t 176) (.t 177) (.k (.bool false))⟩,
 ⟨some 4,none,false,.mv (.t 178)⟩] (some [4])
def ir11_51:IC:=.seq ir11_r34 .ret
def ir11_52:IC:=.seq ir11_50 ir11_51
def ir11_53:IC:=.seq ir11_39 ir11_52
def ir11_54:IC:=.seq ir11_r26 ir11_53
def ir11_55:IC:=.seq ir11_r25 ir11_54
def ir11_56:IC:=.seq ir11_r24 ir11_55
def ir11_57:IC:=.seq ir11_r23 ir11_56
def ir11_58:IC:=.seq ir11_36 ir11_57
def ir11_59:IC:=.seq ir11_33 ir11_58
def ir11_60:IC:=.seq ir11_22 ir11_59
def ir11_61:IC:=.seq ir11_r13 ir11_60
def ir11_62:IC:=.seq ir11_19 ir11_61
def ir11_63:IC:=.seq ir11_r3 ir11_62
def ir11_64:IC:=.seq ir11_3 ir11_63
def ir11_65:IC:=.seq ir11_r0 ir11_64
def ir11:IC:=ir11_65
theorem fn11:FnIs Tryd.prog 11 ir11 179 [.tmp 4]:=⟨Tryd.f11,Tryd.f11.body.getD .skip,Tryd.func11,by kernel_rfl,by kernel_rfl,by kernel_rfl,by kernel_rfl⟩
theorem wrap_u8 (z:Int):0≤IntKind.u8.wrap z∧IntKind.u8.wrap z≤255:=by
 simp [IntKind.wrap,IntKind.signed,IntKind.bits]
 omega
theorem finds_r {b A M x ka ca ke ce : Nat} {vs : List (Nat × List Int)} {M1 : List (Option AObj)} (hv : ∀ v ∈ vs, okV' v) (hl : (catF vs).length ≤ 30000) (hvl : vs.length ≤ 1000) (hA : A < 65536) (hM : M < 65536) (ra : Rw b M1 ka ca (catF vs).length 1 (rows eB (catF vs))) (re : Rw b M1 ke ce (endsF 0 vs).length 1 (rows eN (endsF 0 vs))) (hx : M1[x]? = some (some (.cells ⟨[.int .u16 A, .int .u16 M], 1, false⟩))) :
    ITri Tryd.prog 179 none b ir11_61 [(3,pt x),(5,.slice (some ⟨ka,0,none⟩) (catF vs).length ca),(6,.slice (some ⟨ke,0,none⟩) (endsF 0 vs).length ce)] [] (Hp b M1) (EndR Tryd.prog [.tmp 4] b [] (.bool true)):=by
 obtain ⟨a1,a2,opa,a3,a4⟩:=ra
 obtain ⟨b1,b2,ope,b3,b4⟩:=re
 have hBa:=catF_isB hv
 have hM0:=get_lt a3
 obtain ⟨s1,s2,s3⟩:=scan_all hv hl
 refine ITri.seq ?_
 refine ITri.reg pok ?_; simp -implicitDefEqProofs (disch:=first|decide|exact of_eq_true (eq_true rfl)|omega|assumption) only [↓vcD,vcE,↓vcG,vcF,evs,evP,evB,intsOf,fillC,Value.cells,pt,Value.oneCell',reduceIte,reduceCtorEq,Nat.reduceEqDiff,Nat.reduceAdd,Nat.reduceMul,Nat.reduceLT,Nat.reduceBEq,Nat.reduceLeDiff,Nat.reduceSub]
 refine ⟨_,_,ownB_f rfl (by omega) (sees0 rfl (by omega)) (get_hq rfl (by rw [a3]; rfl)),?_⟩
 simp -implicitDefEqProofs (disch:=first|decide|exact of_eq_true (eq_true rfl)|omega|assumption) only [news_c,news_n, ↓vcD,vcE,↓vcG,vcF,evs,evP,evB,intsOf,fillC,Value.cells,pt,Value.oneCell',reduceIte,reduceCtorEq,Nat.reduceEqDiff,Nat.reduceAdd,Nat.reduceMul,Nat.reduceLT,Nat.reduceBEq,Nat.reduceLeDiff,Nat.reduceSub]
 refine ⟨_,_,scan_f rfl hBa (by omega) (sees0 rfl (by rw [List.length_append]; omega)) (get_hq rfl (by rw [List.getElem?_append_right (Nat.le_refl _),Nat.sub_self]; rfl)),?_⟩
 simp -implicitDefEqProofs (disch:=first|decide|exact of_eq_true (eq_true rfl)|omega|assumption) only [news_c,news_n,s1,s2,s3,apd_get,apd_get0,apd_set0,apd_set,List.length_append,List.append_assoc,Nat.add_assoc, ↓vcD,vcE,↓vcG,vcF,evs,evP,evB,intsOf,fillC,Value.cells,pt,Value.oneCell',reduceIte,reduceCtorEq,Nat.reduceEqDiff,Nat.reduceAdd,Nat.reduceMul,Nat.reduceLT,Nat.reduceBEq,Nat.reduceLeDiff,Nat.reduceSub]
 generalize hM2:M1++[some (AObj.cells ⟨rows eB (catF vs),1,true⟩),rF3 (fnd 0 vs),rR2 []] = M2
 have l2:M2.length = M1.length + 3:=by rw [← hM2,List.length_append]; rfl
 have o2 : ∀ j,j < M1.length→M2[j]? = M1[j]?:=fun j hj=>by rw [← hM2,List.getElem?_append_left hj]
 have r2:M2[M1.length + 1]? = some (rF3 (fnd 0 vs)):=by
  rw [← hM2,List.getElem?_append_right (by omega),Nat.add_sub_cancel_left]
  rfl
 have hfl:(fnd 0 vs).length = vs.length:=fnd_len
 have hel:(endsF 0 vs).length = vs.length:=ends_len
 have a5:M2[ka]? = some (some (.cells ⟨rows eB (catF vs),1,opa⟩)):=by rw [o2 _ hM0]; exact a3
 have b5:M2[ke]? = some (some (.cells ⟨rows eN (endsF 0 vs),1,ope⟩)):=by rw [o2 _ (get_lt b3)]; exact b3
 have x5:M2[x]? = some (some (.cells ⟨[.int .u16 A,.int .u16 M],1,false⟩)):=by rw [o2 _ (get_lt hx)]; exact hx
 simp only [hfl,hel,List.length_nil]
 refine ITri.seq ?_
 refine ITri.seq ?_
 refine ITri.reg pok ?_; simp -implicitDefEqProofs (disch:=first|decide|exact of_eq_true (eq_true rfl)|omega|assumption) only [Int.natCast_zero,decide_true,Bool.not_true, ↓vcD,vcE,↓vcG,vcF,evs,evP,evB,intsOf,fillC,Value.cells,pt,Value.oneCell',reduceIte,reduceCtorEq,Nat.reduceEqDiff,Nat.reduceAdd,Nat.reduceMul,Nat.reduceLT,Nat.reduceBEq,Nat.reduceLeDiff,Nat.reduceSub]
 refine ITri.cond (v:=false) rfl (fun h=>by cases h) (fun _=>?_); refine ITri.skip ?_; simp only [SeqQ_normal,BlkQ_normal]
 refine ITri.seq ?_
 refine ITri.seq ?_
 refine ITri.reg pok ?_; simp -implicitDefEqProofs (disch:=first|decide|exact of_eq_true (eq_true rfl)|omega|assumption) only [↓vcD,vcE,↓vcG,vcF,evs,evP,evB,intsOf,fillC,Value.cells,pt,Value.oneCell',reduceIte,reduceCtorEq,Nat.reduceEqDiff,Nat.reduceAdd,Nat.reduceMul,Nat.reduceLT,Nat.reduceBEq,Nat.reduceLeDiff,Nat.reduceSub]
 refine ITri.block ?_
 refine ITri.loop (fun i:Nat=>[(3,pt x),(5,.slice (some ⟨ka,0,none⟩) (catF vs).length ca),(6,.slice (some ⟨ke,0,none⟩) vs.length ce),(10,sO (M1.length + 1) vs.length),(13,.int .i64 i)]) (fun _=>[]) (fun _=>Hp b M2) (fun i=>i≤vs.length) (fun i=>vs.length - i) 0 (by omega) (Wk.sub ⟨rfl,rfl,rfl,rfl,rfl,trivial⟩) fun i hi=>?_
 refine ITri.seq ?_
 refine ITri.seq ?_
 refine ITri.reg pok ?_; simp -implicitDefEqProofs (disch:=first|decide|exact of_eq_true (eq_true rfl)|omega|assumption) only [↓vcD,vcE,↓vcG,vcF,evs,evP,evB,intsOf,fillC,Value.cells,pt,Value.oneCell',reduceIte,reduceCtorEq,Nat.reduceEqDiff,Nat.reduceAdd,Nat.reduceMul,Nat.reduceLT,Nat.reduceBEq,Nat.reduceLeDiff,Nat.reduceSub]
 refine ITri.condD (by rfl) (fun h3=>?_) (fun h3=>?_)
 ·have hix:i < vs.length:=by omega
  have g0:=rows_get0 (f:=eF3) (xs:=fnd 0 vs) (i:=i) (by omega) (by decide)
  have g1:=rows_get (f:=eF3) (xs:=fnd 0 vs) (i:=i) (j:=1) (by omega) (by decide)
  have g2:(rows eN (endsF 0 vs))[i]? = some (.int .i64 (nth (endsF 0 vs) i)):=getN (by omega)
  have ge:=fnd_ends (o:=0) hix
  obtain ⟨hb1,hb2⟩:=ends_bd hl hix
  have hi1:(i:Int) + 1 = ((i + 1:Nat):Int):=by omega
  refine ITri.skip ?_; simp only [SeqQ_normal,BlkQ_normal]
  refine ITri.seq ?_
  refine ITri.block ?_
  refine ITri.seq ?_
  refine ITri.draw pok ?_; simp -implicitDefEqProofs (disch:=first|decide|exact of_eq_true (eq_true rfl)|omega|assumption) only [r2,b5,g0,g1,g2,ge,decide_true,Bool.not_true, ↓vcD,vcE,↓vcG,vcF,evs,evP,evB,intsOf,fillC,Value.cells,pt,Value.oneCell',reduceIte,reduceCtorEq,Nat.reduceEqDiff,Nat.reduceAdd,Nat.reduceMul,Nat.reduceLT,Nat.reduceBEq,Nat.reduceLeDiff,Nat.reduceSub]
  refine ITri.cond (v:=false) rfl (fun h=>by cases h) (fun _=>?_); refine ITri.skip ?_; simp only [SeqQ_normal,BlkQ_normal]
  refine ITri.reg pok ?_; simp -implicitDefEqProofs (disch:=first|decide|exact of_eq_true (eq_true rfl)|omega|assumption) only [hi1, ↓vcD,vcE,↓vcG,vcF,evs,evP,evB,intsOf,fillC,Value.cells,pt,Value.oneCell',reduceIte,reduceCtorEq,Nat.reduceEqDiff,Nat.reduceAdd,Nat.reduceMul,Nat.reduceLT,Nat.reduceBEq,Nat.reduceLeDiff,Nat.reduceSub]
  exact LoopQ.next (i + 1) (by omega) (by omega) (Wk.sub ⟨rfl,rfl,rfl,rfl,rfl,trivial⟩)
 refine ITri.exit ?_; try simp -implicitDefEqProofs (disch:=first|decide|exact of_eq_true (eq_true rfl)|omega|assumption) only [↓vcD,vcE,↓vcG,vcF,evs,evP,evB,intsOf,fillC,Value.cells,pt,Value.oneCell',reduceIte,reduceCtorEq,Nat.reduceEqDiff,Nat.reduceAdd,Nat.reduceMul,Nat.reduceLT,Nat.reduceBEq,Nat.reduceLeDiff,Nat.reduceSub]
 refine ITri.seq ?_
 refine ITri.seq ?_
 refine ITri.reg pok ?_; simp -implicitDefEqProofs (disch:=first|decide|exact of_eq_true (eq_true rfl)|omega|assumption) only [↓vcD,vcE,↓vcG,vcF,evs,evP,evB,intsOf,fillC,Value.cells,pt,Value.oneCell',reduceIte,reduceCtorEq,Nat.reduceEqDiff,Nat.reduceAdd,Nat.reduceMul,Nat.reduceLT,Nat.reduceBEq,Nat.reduceLeDiff,Nat.reduceSub]
 by_cases h0:(catF vs).length = 0
 ·rw [h0]
  refine ITri.cond (v:=true) rfl (fun _=>?_) (fun h=>by cases h)
  refine ITri.seq ?_
  refine ITri.reg pok ?_; simp -implicitDefEqProofs (disch:=first|decide|exact of_eq_true (eq_true rfl)|omega|assumption) only [↓vcD,vcE,↓vcG,vcF,evs,evP,evB,intsOf,fillC,Value.cells,pt,Value.oneCell',reduceIte,reduceCtorEq,Nat.reduceEqDiff,Nat.reduceAdd,Nat.reduceMul,Nat.reduceLT,Nat.reduceBEq,Nat.reduceLeDiff,Nat.reduceSub]
  refine ⟨_,_,knownT,?_⟩
  try simp -implicitDefEqProofs (disch:=first|decide|exact of_eq_true (eq_true rfl)|omega|assumption) only [↓vcD,vcE,↓vcG,vcF,evs,evP,evB,intsOf,fillC,Value.cells,pt,Value.oneCell',reduceIte,reduceCtorEq,Nat.reduceEqDiff,Nat.reduceAdd,Nat.reduceMul,Nat.reduceLT,Nat.reduceBEq,Nat.reduceLeDiff,Nat.reduceSub]
  refine ITri.ret ?_; exact EndR.plain (by simp) (by rfl) (by rfl) (by rfl)
 have h00 : ¬ ((catF vs).length:Int) = 0:=by omega
 simp only [h00,decide_false]
 refine ITri.cond (v:=false) rfl (fun h=>by cases h) (fun _=>?_); refine ITri.skip ?_; simp only [SeqQ_normal,BlkQ_normal]
 have hx2:M2[x]? = some (some (.cells ⟨[.int .u16 A,.int .u16 M],1,false⟩)):=x5
 have hat:(A:Int) % ((catF vs).length:Int) = ((A % (catF vs).length:Nat):Int):=by rw [Int.natCast_emod]
 have hlt:A % (catF vs).length < (catF vs).length:=Nat.mod_lt _ (by omega)
 refine ITri.seq ?_
 refine ITri.reg pok ?_; simp -implicitDefEqProofs (disch:=first|decide|exact of_eq_true (eq_true rfl)|omega|assumption) only [x5,hat, ↓vcD,vcE,↓vcG,vcF,evs,evP,evB,intsOf,fillC,Value.cells,pt,Value.oneCell',reduceIte,reduceCtorEq,Nat.reduceEqDiff,Nat.reduceAdd,Nat.reduceMul,Nat.reduceLT,Nat.reduceBEq,Nat.reduceLeDiff,Nat.reduceSub]
 generalize A % (catF vs).length = D at *
 refine ITri.seq ?_
 refine ITri.reg pok ?_; simp -implicitDefEqProofs (disch:=first|decide|exact of_eq_true (eq_true rfl)|omega|assumption) only [↓vcD,vcE,↓vcG,vcF,evs,evP,evB,intsOf,fillC,Value.cells,pt,Value.oneCell',reduceIte,reduceCtorEq,Nat.reduceEqDiff,Nat.reduceAdd,Nat.reduceMul,Nat.reduceLT,Nat.reduceBEq,Nat.reduceLeDiff,Nat.reduceSub]
 refine ⟨_,_,ownB_f rfl (by omega) (sees0 rfl (by omega)) (get_hq rfl (by rw [a5]; rfl)),?_⟩
 simp -implicitDefEqProofs (disch:=first|decide|exact of_eq_true (eq_true rfl)|omega|assumption) only [news_c,news_n, ↓vcD,vcE,↓vcG,vcF,evs,evP,evB,intsOf,fillC,Value.cells,pt,Value.oneCell',reduceIte,reduceCtorEq,Nat.reduceEqDiff,Nat.reduceAdd,Nat.reduceMul,Nat.reduceLT,Nat.reduceBEq,Nat.reduceLeDiff,Nat.reduceSub]
 have gD:(rows eB (catF vs))[D]? = some (.int .u8 (nth (catF vs) D)):=rows_get1 (f:=eB) hlt
 refine ITri.seq ?_
 have x6:(M2++[some (AObj.cells ⟨rows eB (catF vs),1,true⟩)])[x]? = some (some (.cells ⟨[.int .u16 A,.int .u16 M],1,false⟩)):=low_get x5
 refine ITri.draw pok ?_; simp -implicitDefEqProofs (disch:=first|decide|exact of_eq_true (eq_true rfl)|omega|assumption) only [x6,gD,apd_get,apd_get0,apd_set0,apd_set,List.length_append,List.append_assoc,Nat.add_assoc, ↓vcD,vcE,↓vcG,vcF,evs,evP,evB,intsOf,fillC,Value.cells,pt,Value.oneCell',reduceIte,reduceCtorEq,Nat.reduceEqDiff,Nat.reduceAdd,Nat.reduceMul,Nat.reduceLT,Nat.reduceBEq,Nat.reduceLeDiff,Nat.reduceSub]
 have hy:0≤btI .xor .u8 (nth (catF vs) D) (IntKind.u8.wrap M)∧btI .xor .u8 (nth (catF vs) D) (IntKind.u8.wrap M)≤255:=wrap_u8 _
 generalize btI .xor .u8 (nth (catF vs) D) (IntKind.u8.wrap M) = y at *
 have hw:writeAt (rows eB (catF vs)) D [.int .u8 y] = rows eB ((catF vs).set D y):=by
  have:=rows_write (f:=eB) y hlt
  rwa [Nat.mul_one] at this
 rw [hw]
 have hfb:=fun i hi he=>found_before (vs:=vs) (at_:=D) (i:=i) hv hy hl hi he
 have hcl:((catF vs).set D y).length = (catF vs).length:=List.length_set
 have hBc:isB ((catF vs).set D y):=fun z hz=>by
  rcases List.mem_or_eq_of_mem_set hz with hz|rfl
  ·exact hBa z hz
  ·exact hy
 have hcov:=scan_covers (ys:=(catF vs).set D y) (by omega)
 have hE:scE ((catF vs).set D y) = 0:=by unfold scE; rw [if_neg (by omega)]
 generalize (catF vs).set D y = cs at *
 rw [← hcl]
 generalize hM3:M2++[some (AObj.cells ⟨rows eB cs,1,true⟩)] = M3
 have l3:M3.length = M2.length + 1:=by rw [← hM3,List.length_append]; rfl
 have r3:M3[M2.length]? = some (some (AObj.cells ⟨rows eB cs,1,true⟩)):=by
  rw [← hM3,List.getElem?_append_right (Nat.le_refl _),Nat.sub_self]
  rfl
 have b6:M3[ke]? = some (some (.cells ⟨rows eN (endsF 0 vs),1,ope⟩)):=by
  rw [← hM3]
  exact low_get b5
 refine ITri.seq ?_
 refine ITri.reg pok ?_; simp -implicitDefEqProofs (disch:=first|decide|exact of_eq_true (eq_true rfl)|omega|assumption) only [↓vcD,vcE,↓vcG,vcF,evs,evP,evB,intsOf,fillC,Value.cells,pt,Value.oneCell',reduceIte,reduceCtorEq,Nat.reduceEqDiff,Nat.reduceAdd,Nat.reduceMul,Nat.reduceLT,Nat.reduceBEq,Nat.reduceLeDiff,Nat.reduceSub]
 refine ⟨_,_,ownB_f rfl (by omega) (sees0 rfl (by omega)) (get_hq rfl (by rw [r3]; rfl)),?_⟩
 simp -implicitDefEqProofs (disch:=first|decide|exact of_eq_true (eq_true rfl)|omega|assumption) only [news_c,news_n, ↓vcD,vcE,↓vcG,vcF,evs,evP,evB,intsOf,fillC,Value.cells,pt,Value.oneCell',reduceIte,reduceCtorEq,Nat.reduceEqDiff,Nat.reduceAdd,Nat.reduceMul,Nat.reduceLT,Nat.reduceBEq,Nat.reduceLeDiff,Nat.reduceSub]
 refine ⟨_,_,scan_f rfl hBc (by omega) (sees0 rfl (by rw [List.length_append]; omega)) (get_hq rfl (by rw [List.getElem?_append_right (Nat.le_refl _),Nat.sub_self]; rfl)),?_⟩
 simp -implicitDefEqProofs (disch:=first|decide|exact of_eq_true (eq_true rfl)|omega|assumption) only [news_c,news_n,hE,apd_get,apd_get0,apd_set0,apd_set,List.length_append,List.append_assoc,Nat.add_assoc, ↓vcD,vcE,↓vcG,vcF,evs,evP,evB,intsOf,fillC,Value.cells,pt,Value.oneCell',reduceIte,reduceCtorEq,Nat.reduceEqDiff,Nat.reduceAdd,Nat.reduceMul,Nat.reduceLT,Nat.reduceBEq,Nat.reduceLeDiff,Nat.reduceSub]
 obtain ⟨hf1,hf2⟩:=sc_len cs
 generalize scF cs = fs at *
 generalize scL cs = ls at *
 generalize hM4:M3++[some (AObj.cells ⟨rows eB cs,1,true⟩),rF3 fs,rR2 ls] = M4
 have l4:M4.length = M3.length + 3:=by rw [← hM4,List.length_append]; rfl
 have r4:M4[M3.length + 1]? = some (rF3 fs):=by
  rw [← hM4,List.getElem?_append_right (by omega),Nat.add_sub_cancel_left]
  rfl
 have r5:M4[M3.length + 2]? = some (rR2 ls):=by
  rw [← hM4,List.getElem?_append_right (by omega),Nat.add_sub_cancel_left]
  rfl
 have r6:M4[M2.length]? = some (some (AObj.cells ⟨rows eB cs,1,true⟩)):=by
  rw [← hM4]
  exact low_get r3
 have b7:M4[ke]? = some (some (.cells ⟨rows eN (endsF 0 vs),1,ope⟩)):=by
  rw [← hM4]
  exact low_get b6
 refine ITri.seq ?_
 refine ITri.seq ?_
 refine ITri.reg pok ?_; simp -implicitDefEqProofs (disch:=first|decide|exact of_eq_true (eq_true rfl)|omega|assumption) only [decide_true,Bool.not_true, ↓vcD,vcE,↓vcG,vcF,evs,evP,evB,intsOf,fillC,Value.cells,pt,Value.oneCell',reduceIte,reduceCtorEq,Nat.reduceEqDiff,Nat.reduceAdd,Nat.reduceMul,Nat.reduceLT,Nat.reduceBEq,Nat.reduceLeDiff,Nat.reduceSub]
 refine ITri.cond (v:=false) rfl (fun h=>by cases h) (fun _=>?_); refine ITri.skip ?_; simp only [SeqQ_normal,BlkQ_normal]
 refine ITri.seq ?_
 refine ITri.seq ?_
 refine ITri.reg pok ?_; simp -implicitDefEqProofs (disch:=first|decide|exact of_eq_true (eq_true rfl)|omega|assumption) only [↓vcD,vcE,↓vcG,vcF,evs,evP,evB,intsOf,fillC,Value.cells,pt,Value.oneCell',reduceIte,reduceCtorEq,Nat.reduceEqDiff,Nat.reduceAdd,Nat.reduceMul,Nat.reduceLT,Nat.reduceBEq,Nat.reduceLeDiff,Nat.reduceSub]
 refine ITri.block ?_
 refine ITri.loop (fun i:Nat=>[(6,.slice (some ⟨ke,0,none⟩) vs.length ce),(10,sO (M3.length + 1) fs.length),(11,sO (M3.length + 2) ls.length),(14,.int .i64 D),(15,sO M2.length cs.length),(16,.int .i64 i)]) (fun _=>[]) (fun _=>Hp b M4) (fun i=>i≤vs.length) (fun i=>vs.length - i) 0 (by omega) (Wk.sub ⟨rfl,rfl,rfl,rfl,rfl,rfl,trivial⟩) fun i hi=>?_
 refine ITri.seq ?_
 refine ITri.seq ?_
 by_cases h3:i < vs.length∧nth (endsF 0 vs) i≤D
 ·obtain ⟨hix,hie⟩:=h3
  obtain ⟨k1,k2⟩:=hfb i hix hie
  have g0:=rows_get0 (f:=eF3) (xs:=fs) (i:=i) (by omega) (by decide)
  have g1:=rows_get (f:=eF3) (xs:=fs) (i:=i) (j:=1) (by omega) (by decide)
  have g2:(rows eN (endsF 0 vs))[i]? = some (.int .i64 (nth (endsF 0 vs) i)):=getN (by omega)
  obtain ⟨hb1,hb2⟩:=ends_bd hl hix
  have hi1:(i:Int) + 1 = ((i + 1:Nat):Int):=by omega
  have hi0:(i:Int) < vs.length:=by omega
  have hif : ¬ (fs.length:Int)≤i:=by omega
  refine ITri.reg pok ?_; simp -implicitDefEqProofs (disch:=first|decide|exact of_eq_true (eq_true rfl)|omega|assumption) only [hi0,b7,g2,hie,decide_true, ↓vcD,vcE,↓vcG,vcF,evs,evP,evB,intsOf,fillC,Value.cells,pt,Value.oneCell',reduceIte,reduceCtorEq,Nat.reduceEqDiff,Nat.reduceAdd,Nat.reduceMul,Nat.reduceLT,Nat.reduceBEq,Nat.reduceLeDiff,Nat.reduceSub]
  refine ITri.cond (v:=true) rfl (fun _=>?_) (fun h=>by cases h)
  refine ITri.skip ?_; simp only [SeqQ_normal,BlkQ_normal]
  refine ITri.seq ?_
  refine ITri.block ?_
  refine ITri.seq ?_
  refine ITri.draw pok ?_; simp -implicitDefEqProofs (disch:=first|decide|exact of_eq_true (eq_true rfl)|omega|assumption) only [hif,r4,b7,g0,g1,g2,k2,decide_true,decide_false,Bool.not_true, ↓vcD,vcE,↓vcG,vcF,evs,evP,evB,intsOf,fillC,Value.cells,pt,Value.oneCell',reduceIte,reduceCtorEq,Nat.reduceEqDiff,Nat.reduceAdd,Nat.reduceMul,Nat.reduceLT,Nat.reduceBEq,Nat.reduceLeDiff,Nat.reduceSub]
  refine ITri.cond (v:=false) rfl (fun h=>by cases h) (fun _=>?_); refine ITri.skip ?_; simp only [SeqQ_normal,BlkQ_normal]
  refine ITri.reg pok ?_; simp -implicitDefEqProofs (disch:=first|decide|exact of_eq_true (eq_true rfl)|omega|assumption) only [hi1, ↓vcD,vcE,↓vcG,vcF,evs,evP,evB,intsOf,fillC,Value.cells,pt,Value.oneCell',reduceIte,reduceCtorEq,Nat.reduceEqDiff,Nat.reduceAdd,Nat.reduceMul,Nat.reduceLT,Nat.reduceBEq,Nat.reduceLeDiff,Nat.reduceSub]
  exact LoopQ.next (i + 1) (by omega) (by omega) (Wk.sub ⟨rfl,rfl,rfl,rfl,rfl,rfl,trivial⟩)
 refine ITri.one [(6,.slice (some ⟨ke,0,none⟩) vs.length ce),(10,sO (M3.length + 1) fs.length),(11,sO (M3.length + 2) ls.length),(14,.int .i64 D),(15,sO M2.length cs.length),(16,.int .i64 i),(147,.bool false)] ?_ ?_
 ·by_cases hix:i < vs.length
  ·have hie : ¬ nth (endsF 0 vs) i≤D:=fun h=>h3 ⟨hix,h⟩
   have g2:(rows eN (endsF 0 vs))[i]? = some (.int .i64 (nth (endsF 0 vs) i)):=getN (by omega)
   have hi0:(i:Int) < vs.length:=by omega
   refine ITri.reg pok ?_; simp -implicitDefEqProofs (disch:=first|decide|exact of_eq_true (eq_true rfl)|omega|assumption) only [hi0,b7,g2,hie,decide_true,decide_false, ↓vcD,vcE,↓vcG,vcF,evs,evP,evB,intsOf,fillC,Value.cells,pt,Value.oneCell',reduceIte,reduceCtorEq,Nat.reduceEqDiff,Nat.reduceAdd,Nat.reduceMul,Nat.reduceLT,Nat.reduceBEq,Nat.reduceLeDiff,Nat.reduceSub]
  ·have hi0 : ¬ (i:Int) < vs.length:=by omega
   refine ITri.reg pok ?_; simp -implicitDefEqProofs (disch:=first|decide|exact of_eq_true (eq_true rfl)|omega|assumption) only [hi0,decide_false, ↓vcD,vcE,↓vcG,vcF,evs,evP,evB,intsOf,fillC,Value.cells,pt,Value.oneCell',reduceIte,reduceCtorEq,Nat.reduceEqDiff,Nat.reduceAdd,Nat.reduceMul,Nat.reduceLT,Nat.reduceBEq,Nat.reduceLeDiff,Nat.reduceSub]
 refine ITri.cond (v:=false) rfl (fun h=>by cases h) (fun _=>?_)
 refine ITri.exit ?_; try simp -implicitDefEqProofs (disch:=first|decide|exact of_eq_true (eq_true rfl)|omega|assumption) only [↓vcD,vcE,↓vcG,vcF,evs,evP,evB,intsOf,fillC,Value.cells,pt,Value.oneCell',reduceIte,reduceCtorEq,Nat.reduceEqDiff,Nat.reduceAdd,Nat.reduceMul,Nat.reduceLT,Nat.reduceBEq,Nat.reduceLeDiff,Nat.reduceSub]
 refine ITri.seq ?_
 refine ITri.reg pok ?_; simp -implicitDefEqProofs (disch:=first|decide|exact of_eq_true (eq_true rfl)|omega|assumption) only [↓vcD,vcE,↓vcG,vcF,evs,evP,evB,intsOf,fillC,Value.cells,pt,Value.oneCell',reduceIte,reduceCtorEq,Nat.reduceEqDiff,Nat.reduceAdd,Nat.reduceMul,Nat.reduceLT,Nat.reduceBEq,Nat.reduceLeDiff,Nat.reduceSub]
 refine ⟨_,_,covers_f rfl hBc (by omega) hcov (sees0 rfl (by omega)) (get_hq rfl (by rw [r6]; rfl)) (get_hq rfl (by rw [r4]; rfl)) (get_hq rfl (by rw [r5]; rfl)),?_⟩
 try simp -implicitDefEqProofs (disch:=first|decide|exact of_eq_true (eq_true rfl)|omega|assumption) only [↓vcD,vcE,↓vcG,vcF,evs,evP,evB,intsOf,fillC,Value.cells,pt,Value.oneCell',reduceIte,reduceCtorEq,Nat.reduceEqDiff,Nat.reduceAdd,Nat.reduceMul,Nat.reduceLT,Nat.reduceBEq,Nat.reduceLeDiff,Nat.reduceSub]
 refine ⟨_,_,knownT,?_⟩
 try simp -implicitDefEqProofs (disch:=first|decide|exact of_eq_true (eq_true rfl)|omega|assumption) only [↓vcD,vcE,↓vcG,vcF,evs,evP,evB,intsOf,fillC,Value.cells,pt,Value.oneCell',reduceIte,reduceCtorEq,Nat.reduceEqDiff,Nat.reduceAdd,Nat.reduceMul,Nat.reduceLT,Nat.reduceBEq,Nat.reduceLeDiff,Nat.reduceSub]
 refine ITri.ret ?_; exact EndR.plain (by simp) (by rfl) (by rfl) (by rfl)
theorem finds_b (n c A M : Nat) (fs : List PF) (L0 : List (Option AObj)) (hn : fs.length = n) (hok : ∀ f ∈ fs, isB f.2.1) (hA : A < 65536) (hM : M < 65536) (hL : L0.length = n + 2) (hp : ∀ i f, fs[i]? = some f → L0[i + 1]? = some (srB f.2.1)) (hr : L0[n + 1]? = some (some (.cells ⟨frCells 1 fs, 0, false⟩))) :
    Fc Tryd.prog 11 [.slice (some ⟨n + 1,0,none⟩) n c,.agg #[.int .u16 A,.int .u16 M]] (Hp L0.length L0) (.bool true) (Hp L0.length L0):=by
 refine Fc.intro0 fn11 (by simp) rfl rfl ?_; simp only [argF]
 refine ITri.seq ?_
 refine ITri.reg pok ?_; simp -implicitDefEqProofs (disch:=first|decide|exact of_eq_true (eq_true rfl)|omega|assumption) only [↓vcD,vcE,↓vcG,vcF,evs,evP,evB,intsOf,fillC,Value.cells,pt,Value.oneCell',reduceIte,reduceCtorEq,Nat.reduceEqDiff,Nat.reduceAdd,Nat.reduceMul,Nat.reduceLT,Nat.reduceBEq,Nat.reduceLeDiff,Nat.reduceSub]
 refine ITri.seq ?_
 refine ITri.seq ?_
 refine ITri.reg pok ?_; simp -implicitDefEqProofs (disch:=first|decide|exact of_eq_true (eq_true rfl)|omega|assumption) only [↓vcD,vcE,↓vcG,vcF,evs,evP,evB,intsOf,fillC,Value.cells,pt,Value.oneCell',reduceIte,reduceCtorEq,Nat.reduceEqDiff,Nat.reduceAdd,Nat.reduceMul,Nat.reduceLT,Nat.reduceBEq,Nat.reduceLeDiff,Nat.reduceSub]
 refine ITri.condD (by rfl) (fun h1=>?_) (fun h1=>?_)
 ·refine ITri.seq ?_
  refine ITri.reg pok ?_; simp -implicitDefEqProofs (disch:=first|decide|exact of_eq_true (eq_true rfl)|omega|assumption) only [↓vcD,vcE,↓vcG,vcF,evs,evP,evB,intsOf,fillC,Value.cells,pt,Value.oneCell',reduceIte,reduceCtorEq,Nat.reduceEqDiff,Nat.reduceAdd,Nat.reduceMul,Nat.reduceLT,Nat.reduceBEq,Nat.reduceLeDiff,Nat.reduceSub]
  refine ⟨_,_,knownT,?_⟩
  try simp -implicitDefEqProofs (disch:=first|decide|exact of_eq_true (eq_true rfl)|omega|assumption) only [↓vcD,vcE,↓vcG,vcF,evs,evP,evB,intsOf,fillC,Value.cells,pt,Value.oneCell',reduceIte,reduceCtorEq,Nat.reduceEqDiff,Nat.reduceAdd,Nat.reduceMul,Nat.reduceLT,Nat.reduceBEq,Nat.reduceLeDiff,Nat.reduceSub]
  refine ITri.ret ?_; exact EndR.plain (by simp) (by rfl) (by rfl) (by rfl)
 refine ITri.skip ?_; simp only [SeqQ_normal,BlkQ_normal]
 refine ITri.seq ?_
 refine ITri.reg pok ?_; simp -implicitDefEqProofs (disch:=first|decide|exact of_eq_true (eq_true rfl)|omega|assumption) only [apd_get,apd_get0,apd_set0,apd_set,List.length_append,List.append_assoc,Nat.add_assoc, ↓vcD,vcE,↓vcG,vcF,evs,evP,evB,intsOf,fillC,Value.cells,pt,Value.oneCell',reduceIte,reduceCtorEq,Nat.reduceEqDiff,Nat.reduceAdd,Nat.reduceMul,Nat.reduceLT,Nat.reduceBEq,Nat.reduceLeDiff,Nat.reduceSub]
 refine ITri.seq ?_
 refine ITri.seq ?_
 refine ITri.reg pok ?_; simp -implicitDefEqProofs (disch:=first|decide|exact of_eq_true (eq_true rfl)|omega|assumption) only [↓vcD,vcE,↓vcG,vcF,evs,evP,evB,intsOf,fillC,Value.cells,pt,Value.oneCell',reduceIte,reduceCtorEq,Nat.reduceEqDiff,Nat.reduceAdd,Nat.reduceMul,Nat.reduceLT,Nat.reduceBEq,Nat.reduceLeDiff,Nat.reduceSub]
 have hx1 : ∀ T:List (Option AObj),(L0++some (AObj.cells ⟨[.int .u16 A,.int .u16 M],1,false⟩) :: T)[L0.length]? = some (some (AObj.cells ⟨[.int .u16 A,.int .u16 M],1,false⟩)):=fun T=>by rw [List.getElem?_append_right (Nat.le_refl _),Nat.sub_self]; rfl
 generalize hbx:some (AObj.cells ⟨[.int .u16 A,.int .u16 M],1,false⟩) = bx at *
 have hl1:(L0++[bx]).length = L0.length + 1:=by rw [List.length_append]; rfl
 have I0:FI fs (L0++[bx]) ⟨0,[],[],L0.length + 1,0,L0.length + 2,0,L0++[bx,some (.cells ⟨[],1,false⟩),some (.cells ⟨[],1,false⟩)]⟩:=by
  refine ⟨Nat.zero_le _,fun j hj=>?_,⟨by show _≤L0.length + 1; omega,rfl,false,?_,.inr ⟨rfl,rfl⟩⟩,⟨by show _≤L0.length + 2; omega,rfl,false,?_,.inr ⟨rfl,rfl⟩⟩,by show L0.length + 1≠L0.length + 2; omega,rfl,rfl,Nat.zero_le _,Nat.zero_le _,fun j f _ hj=>absurd hj (Nat.not_lt_zero _),by rw [hl1,List.length_append]; simp⟩
  ·show (L0++([bx]++[_,_]))[j]? = _
   rw [← List.append_assoc,List.getElem?_append_left hj]
  ·show (L0++_)[L0.length + 1]? = _
   rw [List.getElem?_append_right (by omega),Nat.add_sub_cancel_left]
   rfl
  ·show (L0++_)[L0.length + 2]? = _
   rw [List.getElem?_append_right (by omega),Nat.add_sub_cancel_left]
   rfl
 refine ITri.block ?_
 refine ITri.loop (frF1 n c L0.length) (fun _=>[]) (fun s=>Hp L0.length s.M) (FI fs (L0++[bx])) (fun s=>n - s.i) _ I0 (Wk.sub ⟨rfl,rfl,rfl,rfl,rfl,trivial⟩) fun s I=>?_
 have I':=I
 obtain ⟨i,bs,es,ka,ca,ke,ce,M1⟩:=s
 obtain ⟨le,old,ra,re,ne,tot,ends,bl,el,small,len⟩:=I
 simp only at le old ra re ne tot ends bl el small len ⊢
 rw [hl1] at len
 refine ITri.seq ?_
 refine ITri.seq ?_
 refine ITri.reg pok ?_; simp -implicitDefEqProofs (disch:=first|decide|exact of_eq_true (eq_true rfl)|omega|assumption) only [↓vcD,vcE,↓vcG,vcF,evs,evP,evB,intsOf,fillC,Value.cells,pt,Value.oneCell',reduceIte,reduceCtorEq,Nat.reduceEqDiff,Nat.reduceAdd,Nat.reduceMul,Nat.reduceLT,Nat.reduceBEq,Nat.reduceLeDiff,Nat.reduceSub]
 refine ITri.condD (by rfl) (fun h3=>?_) (fun h3=>?_)
 ·have hi:i < fs.length:=by omega
  obtain ⟨f,hf⟩ : ∃ f,fs[i]? = some f:=⟨fs[i]'hi,List.getElem?_eq_getElem hi⟩
  obtain ⟨q0,q1⟩:=frCells_get (k:=1) hf
  rw [Nat.mul_comm] at q0 q1
  have hB:=hok f (List.mem_of_getElem? hf)
  have hm1:M1[n + 1]? = some (some (.cells ⟨frCells 1 fs,0,false⟩)):=by
   rw [old _ (by omega),List.getElem?_append_left (by omega)]; exact hr
  have hmp:M1[1 + i]? = some (srB f.2.1):=by
   rw [old _ (by omega),List.getElem?_append_left (by omega),Nat.add_comm]; exact hp i f hf
  refine ITri.skip ?_; simp only [SeqQ_normal,BlkQ_normal]
  refine ITri.seq ?_
  refine ITri.block ?_
  refine ITri.seq ?_
  refine ITri.seq ?_
  refine ITri.reg pok ?_; simp -implicitDefEqProofs (disch:=first|decide|exact of_eq_true (eq_true rfl)|omega|assumption) only [hm1,q1, ↓vcD,vcE,↓vcG,vcF,evs,evP,evB,intsOf,fillC,Value.cells,pt,Value.oneCell',reduceIte,reduceCtorEq,Nat.reduceEqDiff,Nat.reduceAdd,Nat.reduceMul,Nat.reduceLT,Nat.reduceBEq,Nat.reduceLeDiff,Nat.reduceSub]
  refine ITri.condD (by rfl) (fun h4=>?_) (fun h4=>?_)
  ·refine ITri.seq ?_
   refine ITri.reg pok ?_; simp -implicitDefEqProofs (disch:=first|decide|exact of_eq_true (eq_true rfl)|omega|assumption) only [↓vcD,vcE,↓vcG,vcF,evs,evP,evB,intsOf,fillC,Value.cells,pt,Value.oneCell',reduceIte,reduceCtorEq,Nat.reduceEqDiff,Nat.reduceAdd,Nat.reduceMul,Nat.reduceLT,Nat.reduceBEq,Nat.reduceLeDiff,Nat.reduceSub]
   refine ⟨_,_,knownT,?_⟩
   try simp -implicitDefEqProofs (disch:=first|decide|exact of_eq_true (eq_true rfl)|omega|assumption) only [↓vcD,vcE,↓vcG,vcF,evs,evP,evB,intsOf,fillC,Value.cells,pt,Value.oneCell',reduceIte,reduceCtorEq,Nat.reduceEqDiff,Nat.reduceAdd,Nat.reduceMul,Nat.reduceLT,Nat.reduceBEq,Nat.reduceLeDiff,Nat.reduceSub]
   refine ITri.ret ?_; exact EndR.plain (by simp) (by rfl) (by rfl) (by rfl)
  refine ITri.skip ?_; simp only [SeqQ_normal,BlkQ_normal]
  refine ITri.seq ?_
  refine ITri.draw pok ?_; simp -implicitDefEqProofs (disch:=first|decide|exact of_eq_true (eq_true rfl)|omega|assumption) only [hm1,q0,q1, ↓vcD,vcE,↓vcG,vcF,evs,evP,evB,intsOf,fillC,Value.cells,pt,Value.oneCell',reduceIte,reduceCtorEq,Nat.reduceEqDiff,Nat.reduceAdd,Nat.reduceMul,Nat.reduceLT,Nat.reduceBEq,Nat.reduceLeDiff,Nat.reduceSub]
  refine ⟨_,_,ownB_f rfl (by omega) (sees0 rfl (by omega)) (get_hq rfl (by rw [hmp]; rfl)),?_⟩
  simp -implicitDefEqProofs (disch:=first|decide|exact of_eq_true (eq_true rfl)|omega|assumption) only [news_c,news_n, ↓vcD,vcE,↓vcG,vcF,evs,evP,evB,intsOf,fillC,Value.cells,pt,Value.oneCell',reduceIte,reduceCtorEq,Nat.reduceEqDiff,Nat.reduceAdd,Nat.reduceMul,Nat.reduceLT,Nat.reduceBEq,Nat.reduceLeDiff,Nat.reduceSub]
  refine ⟨_,_,put_f rfl hB (sees0 rfl (by rw [List.length_append]; omega)) (get_hq rfl (by rw [List.getElem?_append_right (Nat.le_refl _),Nat.sub_self]; rfl)),?_⟩
  simp -implicitDefEqProofs (disch:=first|decide|exact of_eq_true (eq_true rfl)|omega|assumption) only [news_c,news_n,apd_get,apd_get0,apd_set0,apd_set,List.length_append,List.append_assoc,Nat.add_assoc, ↓vcD,vcE,↓vcG,vcF,evs,evP,evB,intsOf,fillC,Value.cells,pt,Value.oneCell',reduceIte,reduceCtorEq,Nat.reduceEqDiff,Nat.reduceAdd,Nat.reduceMul,Nat.reduceLT,Nat.reduceBEq,Nat.reduceLeDiff,Nat.reduceSub]
  generalize hM2:M1++[some (AObj.cells ⟨rows eB f.2.1,1,true⟩),some (AObj.cells ⟨rows eB (putX f.1 f.2.1),1,true⟩)] = M2
  have l2:M2.length = M1.length + 2:=by rw [← hM2,List.length_append]; rfl
  have o2 : ∀ j,j < M1.length→M2[j]? = M1[j]?:=fun j hj=>by rw [← hM2,List.getElem?_append_left hj]
  have r2:M2[M1.length + 1]? = some (some (AObj.cells ⟨rows eB (putX f.1 f.2.1),1,true⟩)):=by
   rw [← hM2,List.getElem?_append_right (by omega),Nat.add_sub_cancel_left]
   rfl
  have ra2:=ra.mono (o2 _ ra.lt)
  have re2:=re.mono (o2 _ re.lt)
  have hd:=gv_drop hf
  have hi1:(i:Int) + 1 = ((i + 1:Nat):Int):=by omega
  have small' : ∀ j f,fs[j]? = some f→j < i + 1→f.2.1.length≤30:=fun j g hg hj=>by
   by_cases hji:j < i
   ·exact small j g hg hji
   ·obtain rfl:j = i:=by omega
    rw [hf] at hg
    injection hg with hg
    subst hg
    omega
  refine ITri.seq ?_
  by_cases he:putE f.1 f.2.1.length = 0
  ·have ex:putX f.1 f.2.1 = frB f.1.toNat f.2.1:=by unfold putX; rw [if_pos he]
   have eg:gvF f = [(f.1.toNat,f.2.1)]:=by unfold gvF; rw [if_pos he]
   obtain ⟨g1,g2⟩:=groups_len (N:=f.2.1.length) (by omega)
   have hfl:(frB f.1.toNat f.2.1).length = 1 + (groups f.2.1.length).length + f.2.1.length + 2:=by rw [frB_len,frH_len]
   rw [ex] at r2 ⊢
   rw [eg,List.singleton_append] at hd
   rw [hd] at tot ends
   rw [catF_cons,← List.append_assoc] at tot
   refine ITri.reg pok ?_; simp -implicitDefEqProofs (disch:=first|decide|exact of_eq_true (eq_true rfl)|omega|assumption) only [he,decide_true, ↓vcD,vcE,↓vcG,vcF,evs,evP,evB,intsOf,fillC,Value.cells,pt,Value.oneCell',reduceIte,reduceCtorEq,Nat.reduceEqDiff,Nat.reduceAdd,Nat.reduceMul,Nat.reduceLT,Nat.reduceBEq,Nat.reduceLeDiff,Nat.reduceSub]
   refine ITri.cond (v:=true) rfl (fun _=>?_) (fun h=>by cases h)
   refine ITri.seq ?_
   refine ITri.reg pok ?_; simp -implicitDefEqProofs (disch:=first|decide|exact of_eq_true (eq_true rfl)|omega|assumption) only [↓vcD,vcE,↓vcG,vcF,evs,evP,evB,intsOf,fillC,Value.cells,pt,Value.oneCell',reduceIte,reduceCtorEq,Nat.reduceEqDiff,Nat.reduceAdd,Nat.reduceMul,Nat.reduceLT,Nat.reduceBEq,Nat.reduceLeDiff,Nat.reduceSub]
   refine ra2.app (new:=rows eB (frB f.1.toNat f.2.1)) (by omega) (cells_all r2 (by rw [rows_len])) (by omega) (by rw [rows_len]) (by omega) (rows_allT _) (by omega) fun M3 l3 o3 ra3=>?_
   have re3:=re2.mono (o3 ke (Ne.symm ne) re2.lt)
   have e3:bs.length + (frB f.1.toNat f.2.1).length = (bs++frB f.1.toNat f.2.1).length:=by rw [List.length_append]
   rw [← rows_append,e3] at ra3
   rw [e3]
   refine ITri.reg pok ?_; simp -implicitDefEqProofs (disch:=first|decide|exact of_eq_true (eq_true rfl)|omega|assumption) only [↓vcD,vcE,↓vcG,vcF,evs,evP,evB,intsOf,fillC,Value.cells,pt,Value.oneCell',reduceIte,reduceCtorEq,Nat.reduceEqDiff,Nat.reduceAdd,Nat.reduceMul,Nat.reduceLT,Nat.reduceBEq,Nat.reduceLeDiff,Nat.reduceSub]
   generalize hY:(((bs++frB f.1.toNat f.2.1).length:Nat):Int) = Y at *
   generalize hM4:M3++[some (AObj.cells ⟨[.int .i64 Y],1,false⟩)] = M4
   have l4:M4.length = M3.length + 1:=by rw [← hM4,List.length_append]; rfl
   have o4 : ∀ j,j < M3.length→M4[j]? = M3[j]?:=fun j hj=>by rw [← hM4,List.getElem?_append_left hj]
   have r4:M4[M3.length]? = some (some (AObj.cells ⟨rows eN [Y],1,false⟩)):=by
    rw [← hM4,List.getElem?_append_right (Nat.le_refl _),Nat.sub_self]
    rfl
   have ra4:=ra3.mono (o4 _ ra3.lt)
   have re4:=re3.mono (o4 _ re3.lt)
   refine re4.app (new:=rows eN [Y]) (by omega) (cells_all r4 rfl) (by omega) rfl (by omega) (rows_allT _) (by omega) fun M5 l5 o5 re5=>?_
   have hke:=re2.lt
   have hka:=ra2.lt
   have ra5:=ra4.mono (o5 M2.length (by omega) (by omega))
   have e5:es.length + 1 = (es++[Y]).length:=by rw [List.length_append]; rfl
   rw [← rows_append,e5] at re5
   rw [e5]
   refine ITri.reg pok ?_; simp -implicitDefEqProofs (disch:=first|decide|exact of_eq_true (eq_true rfl)|omega|assumption) only [hi1, ↓vcD,vcE,↓vcG,vcF,evs,evP,evB,intsOf,fillC,Value.cells,pt,Value.oneCell',reduceIte,reduceCtorEq,Nat.reduceEqDiff,Nat.reduceAdd,Nat.reduceMul,Nat.reduceLT,Nat.reduceBEq,Nat.reduceLeDiff,Nat.reduceSub]
   have hkM:=re.lt
   have hkA:=ra.lt
   have hb:=ra.1
   have hb2:=re.1
   refine LoopQ.next ⟨i + 1,bs++frB f.1.toNat f.2.1,es++[Y],M2.length,openB,M4.length,openB,M5⟩ ⟨hi,fun j hj=>?_,ra5,re5,by show M2.length≠M4.length; omega,tot,?_,?_,?_,small',by show (L0++[bx]).length≤M5.length; omega⟩ (by show n - (i + 1) < n - i; omega) (Wk.sub ⟨rfl,rfl,rfl,rfl,rfl,trivial⟩)
   ·show M5[j]? = _
    rw [o5 j (by omega) (by omega),o4 j (by omega),o3 j (by omega) (by omega),o2 j (by omega)]
    exact old j hj
   ·show (es++[Y])++endsF (bs++frB f.1.toNat f.2.1).length _ = _
    rw [← ends,← hY,List.append_assoc,List.length_append]
    rfl
   ·show (bs++frB f.1.toNat f.2.1).length≤50 * (i + 1)
    rw [List.length_append]
    omega
   ·show (es++[Y]).length≤i + 1
    rw [List.length_append]
    show es.length + 1≤i + 1
    omega
  ·have eg:gvF f = []:=by unfold gvF; rw [if_neg he]
   rw [eg,List.nil_append] at hd
   rw [hd] at tot ends
   refine ITri.reg pok ?_; simp -implicitDefEqProofs (disch:=first|decide|exact of_eq_true (eq_true rfl)|omega|assumption) only [he,decide_false, ↓vcD,vcE,↓vcG,vcF,evs,evP,evB,intsOf,fillC,Value.cells,pt,Value.oneCell',reduceIte,reduceCtorEq,Nat.reduceEqDiff,Nat.reduceAdd,Nat.reduceMul,Nat.reduceLT,Nat.reduceBEq,Nat.reduceLeDiff,Nat.reduceSub]
   refine ITri.cond (v:=false) rfl (fun h=>by cases h) (fun _=>?_); refine ITri.skip ?_; simp only [SeqQ_normal,BlkQ_normal]
   refine ITri.reg pok ?_; simp -implicitDefEqProofs (disch:=first|decide|exact of_eq_true (eq_true rfl)|omega|assumption) only [hi1, ↓vcD,vcE,↓vcG,vcF,evs,evP,evB,intsOf,fillC,Value.cells,pt,Value.oneCell',reduceIte,reduceCtorEq,Nat.reduceEqDiff,Nat.reduceAdd,Nat.reduceMul,Nat.reduceLT,Nat.reduceBEq,Nat.reduceLeDiff,Nat.reduceSub]
   refine LoopQ.next ⟨i + 1,bs,es,ka,ca,ke,ce,M2⟩ ⟨hi,fun j hj=>?_,ra2,re2,ne,tot,ends,?_,?_,small',by show (L0++[bx]).length≤M2.length; omega⟩ (by show n - (i + 1) < n - i; omega) (Wk.sub ⟨rfl,rfl,rfl,rfl,rfl,trivial⟩)
   ·show M2[j]? = _
    rw [o2 j (by omega)]
    exact old j hj
   ·show bs.length≤50 * (i + 1)
    omega
   ·show es.length≤i + 1
    omega
 refine ITri.exit ?_; try simp -implicitDefEqProofs (disch:=first|decide|exact of_eq_true (eq_true rfl)|omega|assumption) only [↓vcD,vcE,↓vcG,vcF,evs,evP,evB,intsOf,fillC,Value.cells,pt,Value.oneCell',reduceIte,reduceCtorEq,Nat.reduceEqDiff,Nat.reduceAdd,Nat.reduceMul,Nat.reduceLT,Nat.reduceBEq,Nat.reduceLeDiff,Nat.reduceSub]
 obtain rfl:i = n:=by omega
 have e0:fs.drop i = []:=by rw [← hn,List.drop_length]
 have g0:gv [] = []:=rfl
 rw [e0,g0] at tot ends
 obtain rfl:bs = catF (gv fs):=by rw [← tot]; show _ = bs++[]; rw [List.append_nil]
 obtain rfl:es = endsF 0 (gv fs):=by rw [← ends]; show _ = es++[]; rw [List.append_nil]
 have hv : ∀ v∈gv fs,okV' v:=gv_ok fun f hf=>⟨hok f hf,by
  obtain ⟨j,hj⟩:=List.getElem?_of_mem hf
  have:=small j f hj (by rw [← hn]; exact (List.getElem?_eq_some_iff.1 hj).1)
  omega⟩
 have hvl:(gv fs).length≤i:=by rw [ends_len] at el; exact el
 refine ITri.weak (l':=[(3,pt L0.length),(5,.slice (some ⟨ka,0,none⟩) (catF (gv fs)).length ca),(6,.slice (some ⟨ke,0,none⟩) (endsF 0 (gv fs)).length ce)]) (ms':=[]) (h':=Hp L0.length M1) (Wk.sub ⟨rfl,rfl,rfl,trivial⟩) (finds_r (A:=A) (M:=M) hv (by omega) (by omega) hA hM ⟨by have:=ra.1; omega,ra.2⟩ ⟨by have:=re.1; omega,re.2⟩ ?_)
 rw [old _ (by omega),hx1,hbx]
theorem finds_c (n c A M : Nat) (fs : List PF) (hn : fs.length = n) (hok : ∀ f ∈ fs, isB f.2.1) (hA : A < 65536) (hM : M < 65536) :
    Fc Tryd.prog 11 [.slice (some ⟨n + 1,0,none⟩) n c,.agg #[.int .u16 A,.int .u16 M]] (Hp (n + 2) (frMem fs)) (.bool true) (Hp (n + 2) (frMem fs)):=by
 have h:=finds_b n c A M fs (frMem fs) hn hok hA hM (by rw [frMem_len,hn]) (fun i f hf=>frMem_pay hf) (by rw [← hn]; exact frMem_row fs)
 rw [frMem_len,hn] at h
 exact h
end Go.Proofs.YtgjokhodccacoaaDoor
