import Derived.Test.YtgjokhodccacoaaDoorSRecH1
import Derived.Test.YtgjokhodccacoaaDoorSRecF3
set_option linter.unusedSimpArgs false
set_option linter.unusedVariables false
namespace Go.Vm
open Go Go.RowKit
section
variable {P:Program} {w:Bool} {t u el:TypeId} {s:Nat} {l:Fr} {h:AH} {K:Value→AH→Prop}
theorem gen_peq {a : Addr} (hu : P.underlying t = some (.pointer el)) (hl : lk l s = some (.pointer (some a))) (q : K (.bool false) h) :
    iStep P w (.gen (.binOp .eql t (.tmp s) (.const (.pointer none)) u)) l h K:=by
 refine ⟨_,_,?_,q⟩
 have e1:aEnv (trOf l) (.tmp s) = some (.pointer (some a)):=by simp only [aEnv,trOf_get,hl]
 have e2:aEnv (trOf l) (.const (.pointer none)) = some (.pointer none):=rfl
 simp only [aOp,e1,e2,noAddr,Bool.false_and,Bool.false_eq_true,if_false,aEq,hu]
theorem gen_pnil (hl : lk l s = some (.pointer none)) (e : pureRun P (do Go.eqGuard .eql t (.tmp s) (.const (.pointer none)) (.pointer none) (.pointer none); Go.binOp .eql t (.pointer none) (.pointer none)) = some (.bool true)) (q : K (.bool true) h) :
    iStep P w (.gen (.binOp .eql t (.tmp s) (.const (.pointer none)) u)) l h K:=by
 refine ⟨_,_,?_,q⟩
 have e1:aEnv (trOf l) (.tmp s) = some (.pointer none):=by simp only [aEnv,trOf_get,hl]
 have e2:aEnv (trOf l) (.const (.pointer none)) = some (.pointer none):=rfl
 exact op_bin e1 e2 rfl rfl rfl e
end
section
variable {P:Program} {w:Bool} {t el:TypeId} {f:TypeInfo} {s d k n:Nat} {l:Fr} {h:AH} {K:Value→AH→Prop}
theorem gen_endO {x : Int} (hu : P.underlying t = some (.slice el)) (hi : P.info? el = some f) (hl : lk l s = some (.slice (some ⟨k, 0, none⟩) n openB)) (h1 : lk l d = some (.int .i64 x)) (hx : x = n) (h0 : n ≠ 0) (q : K (.slice (some ⟨h.next, 0, none⟩) 0 openB) h.bump) :
    iStep P w (.gen (.slice t (.tmp s) (some (.tmp d)) none none)) l h K:=by
 subst hx
 refine ⟨_,_,?_,q⟩
 have e1:aEnv (trOf l) (.tmp s) = some (.slice (some ⟨k,0,none⟩) n openB):=by simp only [aEnv,trOf_get,hl]
 have e2:aOptV (aEnv (trOf l)) (some (.tmp d)) = some (some (.int .i64 n)):=by simp only [aOptV,aEnv,trOf_get,h1]
 have e4:aOptV (aEnv (trOf l)) none = some none:=rfl
 have n1:natOf (some (.int .i64 (n:Int))) 0 = some n:=natOf_n
 have n2:natOf none n = some n:=rfl
 have n3:natOf none openB = some openB:=rfl
 have h1:aSlice P t (.slice (some ⟨k,0,none⟩) n openB) (some (.int .i64 n)) none none = none:=by
  simp only [aSlice,hu,hi,n1,n2,n3]
  rw [if_neg (Nat.lt_irrefl _)]
  simp [h0]
 have h2:aSliceEnd P h t (.slice (some ⟨k,0,none⟩) n openB) (some (.int .i64 n)) none none = some (.slice (some ⟨h.next,0,none⟩) 0 openB,h.bump):=by
  simp only [aSliceEnd,hu,hi,n1,n2]
  rw [if_pos ⟨Nat.le_refl _,trivial,Nat.le_refl _⟩]
 simp only [aOp,e1,e2,e4,h1,h2]
end
def RwV (b:Nat) (M:List (Option AObj)) (v:Value) (n sz:Nat) (cs:List Value):Prop:=(v = .slice none 0 0∧n = 0∧cs = [])∨∃ k c,v = .slice (some ⟨k,0,none⟩) n c∧Rw b M k c n sz cs
theorem RwV.mono {b:Nat} {M M' : List (Option AObj)} {v:Value} {n sz:Nat} {cs:List Value} (h:RwV b M v n sz cs) (e : ∀ (k:Nat) (o:AObj),b≤k→M[k]? = some (some o)→M'[k]? = some (some o)):RwV b M' v n sz cs:=by
 rcases h with h|⟨k,c,h1,h2,h3,op,h4,h5⟩
 ·exact .inl h
 ·exact .inr ⟨k,c,h1,h2,h3,op,e _ _ h2 h4,h5⟩
theorem Rw.app' {b wl : Nat} {M : List (Option AObj)} {k c n sz ne bytes k2 o2 c2 : Nat} {cs new : List Value} (h : Rw b M k c n sz cs) (hb : wl ≤ b) (hs : cellsAt (Hp wl M) k2 o2 (ne * sz) = some new) (hne : ne ≠ 0) (hnl : new.length = ne * sz) (hbd : (2 * (n + ne) + 1024) * bytes ≤ 281474976710656) (h1 : new.all Value.oneCell' = true) (hbM : b ≤ M.length) :
    ∃ M',M'.length = M.length + 1∧(∀ j,j≠k→j < M.length→M'[j]? = M[j]?)∧Rw b M' M.length openB (n + ne) sz (cs++new)∧∀ K:Value→AH→Prop,K (.slice (some ⟨M.length,0,none⟩) (n + ne) openB) (Hp wl M')→appK (Hp wl M) sz bytes (.slice (some ⟨k,0,none⟩) n c) (.slice (some ⟨k2,o2,none⟩) ne c2) K:=by
 obtain ⟨h2,h3,op,h4,h5⟩:=h
 have hk:=get_lt h4
 have hlen:(cs++new).length = (n + ne) * sz:=by rw [List.length_append,h3,hnl,Nat.add_mul]
 rcases h5 with ⟨rfl,rfl⟩|⟨rfl,rfl⟩
 ·refine ⟨(M++[some (AObj.cells ⟨cs++new,sz,true⟩)]).set k none,by rw [List.length_set,List.length_append]; rfl,fun j hj hl=>by rw [List.getElem?_set_ne (by omega),List.getElem?_append_left hl],⟨hbM,hlen,true,?_,.inl ⟨rfl,rfl⟩⟩,fun K q=>?_⟩
  ·rw [List.getElem?_set_ne (by omega),List.getElem?_append_right (Nat.le_refl _),Nat.sub_self]
   rfl
  ·rw [appK_o rfl (by rw [h4]; rfl) h3 hne,show cellsAt (Hq wl [] M) k2 o2 (ne * sz) = some new from hs]
   show chk _ _
   unfold chk
   exact ⟨⟨by omega,hbd⟩,h1,q⟩
 ·have e0:cs = []:=List.eq_nil_of_length_eq_zero (by rw [h3,Nat.zero_mul])
  subst e0
  rw [Nat.zero_add] at hbd hlen
  rw [Nat.zero_add]
  refine ⟨M++[some (.cells ⟨new,sz,true⟩)],by rw [List.length_append]; rfl,fun j hj hl=>by rw [List.getElem?_append_left hl],⟨hbM,hlen,true,?_,.inl ⟨rfl,rfl⟩⟩,fun K q=>?_⟩
  ·rw [List.getElem?_append_right (Nat.le_refl _),Nat.sub_self]
   rfl
  ·rw [appK_e (by unfold sCells; exact if_pos rfl) hne,show cellsAt (Hq wl [] M) k2 o2 (ne * sz) = some new from hs]
   show chk _ _
   unfold chk
   exact ⟨hbd,q⟩
theorem RwV.app' {b wl : Nat} {M : List (Option AObj)} {v : Value} {n sz ne bytes k2 o2 c2 : Nat} {cs new : List Value} (h : RwV b M v n sz cs) (hb : wl ≤ b) (hs : cellsAt (Hp wl M) k2 o2 (ne * sz) = some new) (hne : ne ≠ 0) (hnl : new.length = ne * sz) (hbd : (2 * (n + ne) + 1024) * bytes ≤ 281474976710656) (h1 : new.all Value.oneCell' = true) (hbM : b ≤ M.length) :
    ∃ M',M'.length = M.length + 1∧(∀ j,j < b→M'[j]? = M[j]?)∧(∀ (j:Nat) (o:AObj),M[j]? = some (some o)→(∀ cs op,o≠.cells ⟨cs,sz,op⟩)→M'[j]? = some (some o))∧Rw b M' M.length openB (n + ne) sz (cs++new)∧∀ K:Value→AH→Prop,K (.slice (some ⟨M.length,0,none⟩) (n + ne) openB) (Hp wl M')→appK (Hp wl M) sz bytes v (.slice (some ⟨k2,o2,none⟩) ne c2) K:=by
 rcases h with ⟨rfl,rfl,rfl⟩|⟨k,c,rfl,R⟩
 ·rw [Nat.zero_add] at hbd
  rw [Nat.zero_add]
  refine ⟨M++[some (.cells ⟨new,sz,true⟩)],by rw [List.length_append]; rfl,fun j hj=>by rw [List.getElem?_append_left (by omega)],fun j o hj _=>low_get hj,⟨hbM,by show new.length = _; rw [hnl],true,?_,.inl ⟨rfl,rfl⟩⟩,fun K q=>?_⟩
  ·rw [List.getElem?_append_right (Nat.le_refl _),Nat.sub_self]
   rfl
  ·rw [appK_n hne,show cellsAt (Hq wl [] M) k2 o2 (ne * sz) = some new from hs]
   show chk _ _
   unfold chk
   exact ⟨hbd,q⟩
 ·have hk:=R.lt
  have hbk:=R.1
  obtain ⟨_,_,op,hg,_⟩:=id R
  obtain ⟨M',l',o',r',q'⟩:=R.app' (bytes:=bytes) (c2:=c2) hb hs hne hnl hbd h1 hbM
  exact ⟨M',l',fun j hj=>o' j (by omega) (by omega),fun j o hj ho=>by
   rw [o' j (fun e=>by
    subst e
    rw [hg] at hj
    injection hj with hj
    injection hj with hj
    exact ho _ _ hj.symm) (get_lt hj)]
   exact hj,r',q'⟩
end Go.Vm
namespace Go.Proofs.YtgjokhodccacoaaDoor
open Go.RowKit Go.Vm
set_option maxRecDepth 100000
def fdF (ws:List Int) (at_:Nat):List (Int×List Int)×Nat×Int :=
 if h:(getR ws at_).2.2.2 = 0∧at_ < (getR ws at_).2.2.1.toNat∧(getR ws at_).2.2.1.toNat≤ws.length then
  (((getR ws at_).1,(getR ws at_).2.1) :: (fdF ws (getR ws at_).2.2.1.toNat).1,(fdF ws (getR ws at_).2.2.1.toNat).2)
 else ([],at_,(getR ws at_).2.2.2)
termination_by ws.length - at_
decreasing_by all_goals omega
theorem fdF_ok {ws:List Int} {at_ nx:Nat} {kd:Int} {pay:List Int} (h:getR ws at_ = (kd,pay,(nx:Int),0)) (h1:at_ < nx) (h2:nx≤ws.length):fdF ws at_ = ((kd,pay) :: (fdF ws nx).1,(fdF ws nx).2):=by
 rw [fdF,dif_pos ⟨by rw [h],by rw [h]; exact h1,by rw [h]; exact h2⟩,h]
 rfl
theorem fdF_err {ws:List Int} {at_:Nat} (h:(getR ws at_).2.2.2≠0):fdF ws at_ = ([],at_,(getR ws at_).2.2.2):=by
 rw [fdF,dif_neg (fun x=>h x.1)]
theorem getR_bad {ws:List Int} {at_:Int} (h:(getR ws at_).2.2.2≠0):(getR ws at_).2.1 = []∧(getR ws at_).1 = 0∧(getR ws at_).2.2.1 = 0:=by
 unfold getR at h ⊢
 split
 ·exact ⟨rfl,rfl,rfl⟩
 ·split
  ·exact ⟨rfl,rfl,rfl⟩
  ·rename_i h1 h2
   rw [if_neg h1,if_neg h2] at h
   split
   ·rename_i hr
    rw [hr] at h
    exact absurd rfl h
   ·exact ⟨rfl,rfl,rfl⟩
abbrev FrT:=Nat×Int×List Int
def fcs (fs:List FrT):List Value:=fs.flatMap fun f=>[.int .i64 f.2.1,.slice (some ⟨f.1,0,none⟩) f.2.2.length openB]
theorem fcs_app (fs gs:List FrT):fcs (fs++gs) = fcs fs++fcs gs:=by unfold fcs; rw [List.flatMap_append]
theorem fcs_get : ∀ {fs:List FrT} {i:Nat} {f:FrT},fs[i]? = some f→(fcs fs)[i * 2]? = some (.int .i64 f.2.1)∧(fcs fs)[i * 2 + 1]? = some (.slice (some ⟨f.1,0,none⟩) f.2.2.length openB)
 | [],_,_,h=>by cases h
 | g :: r,0,f,h=>by
  have h:some g = some f:=h
  injection h with h
  subst h
  exact ⟨rfl,rfl⟩
 | g :: r,i + 1,f,h=>by
  obtain ⟨h1,h2⟩:=fcs_get (fs:=r) (i:=i) (f:=f) h
  rw [show (i + 1) * 2 = i * 2 + 1 + 1 by omega]
  exact ⟨h1,h2⟩
def FD (b:Nat) (M:List (Option AObj)) (fs:List FrT):Prop:=∀ f∈fs,b≤f.1∧M[f.1]? = some (opR f.2.2)
theorem FD.mono {b:Nat} {M M' : List (Option AObj)} {fs:List FrT} (h:FD b M fs) (e : ∀ (j:Nat) (xs:List Int),b≤j→M[j]? = some (opR xs)→M'[j]? = some (opR xs)):FD b M' fs:=fun f hf=>⟨(h f hf).1,e _ _ (h f hf).1 (h f hf).2⟩
abbrev strB (s:Value) (br:Bool):Option AObj:=some (.cells ⟨[s,.bool br],1,false⟩)
structure FdS where
 at_:Nat
 fs:List FrT
 v:Value
 M:List (Option AObj)
structure FdI (L1:List (Option AObj)) (kb k:Nat) (ws:List Int) (j:Nat) (s:FdS):Prop where
 le:s.at_≤ws.length
 old : ∀ i,i < L1.length→s.M[i]? = L1[i]?
 len:L1.length≤s.M.length
 rv:RwV L1.length s.M s.v s.fs.length 2 (fcs s.fs)
 fd:FD L1.length s.M s.fs
 res:s.fs.map (·.2)++(fdF ws s.at_).1 = (fdF ws 0).1
 fin:(fdF ws s.at_).2 = (fdF ws 0).2
 num:j + (fdF ws s.at_).1.length = (fdF ws 0).1.length
 fl:s.fs.length≤s.at_
abbrev frFd (kb:Nat) (s:FdS):Fr:=[(0,pt kb),(6,s.v),(7,.int .i64 s.at_)]
def ir42_r0:IC:=.reg [⟨some 4,none,false,.mv (.k (.slice none 0 0))⟩,
 ⟨some 5,none,false,.mv (.k (.int .i64 0))⟩] (some [0,1])
def ir42_r1:IC:=.reg [⟨some 12,none,false,.mv (.t 0)⟩,
 ⟨some 13,none,false,.gen (.binOp .eql 63 (.tmp 12) (.const (.pointer none)) 63)⟩,
 ⟨some 11,none,false,.mv (.t 13)⟩] (some [0,1,11])
def ir42_r2:IC:=.reg [⟨some 4,none,false,.mv (.k (.slice none 0 0))⟩,
 ⟨some 5,none,false,.mv (.k (.int .i64 1))⟩] (some [4,5])
def ir42_1:IC:=.seq ir42_r2 .ret
def ir42_r3:IC:=.reg [⟨some 15,none,false,.mv (.t 0)⟩,
 ⟨some 16,none,false,.nilck (.t 15)⟩,
 ⟨some 17,none,false,.fad 1 (.t 16)⟩,
 ⟨some 18,none,false,.ldc (.t 17)⟩,
 ⟨some 14,none,false,.mv (.t 18)⟩] (some [0,1,14])
def ir42_r4:IC:=.reg [⟨some 4,none,false,.mv (.k (.slice none 0 0))⟩,
 ⟨some 5,none,false,.mv (.k (.int .i64 9))⟩] (some [4,5])
def ir42_2:IC:=.seq ir42_r4 .ret
def ir42_r5:IC:=.reg [⟨some 20,none,false,.mv (.t 1)⟩,
 ⟨some 21,none,false,.len (.t 20)⟩,
 ⟨some 22,none,false,.cmp .gtr (.t 21) (.k (.int .i64 10000))⟩,
 ⟨some 19,none,false,.mv (.t 22)⟩] (some [0,1,19])
def ir42_r6:IC:=.reg [⟨some 4,none,false,.mv (.k (.slice none 0 0))⟩,
 ⟨some 5,none,false,.mv (.k (.int .i64 5))⟩] (some [4,5])
def ir42_3:IC:=.seq ir42_r6 .ret
def ir42_4:IC:=.cond (.t 19) ir42_3 .skip
def ir42_5:IC:=.seq ir42_r5 ir42_4
def ir42_6:IC:=.cond (.t 14) ir42_2 ir42_5
def ir42_7:IC:=.seq ir42_r3 ir42_6
def ir42_8:IC:=.cond (.t 11) ir42_1 ir42_7
def ir42_9:IC:=.seq ir42_r1 ir42_8
def ir42_10:IC:=.block 0 ir42_9
def ir42_r7:IC:=.reg [⟨some 23,none,false,.mv (.t 0)⟩,
 ⟨some 24,none,false,.mv (.t 0)⟩,
 ⟨some 25,none,false,.nilck (.t 24)⟩,
 ⟨some 26,none,false,.fad 0 (.t 25)⟩,
 ⟨some 27,none,false,.ldc (.t 26)⟩,
 ⟨some 28,none,false,.mv (.t 1)⟩,
 ⟨some 29,none,false,.app 1 1 (.t 27) (.t 28)⟩,
 ⟨some 30,none,false,.nilck (.t 23)⟩,
 ⟨some 31,none,false,.fad 0 (.t 30)⟩,
 ⟨none,none,false,.st 1 (.t 31) (.t 29)⟩] (some [0])
def ir42_r8:IC:=.reg [⟨some 6,none,false,.mv (.k (.slice none 0 0))⟩] (some [0,6])
def ir42_r9:IC:=.reg [⟨some 7,none,false,.mv (.k (.int .i64 0))⟩] (some [0,6,7])
def ir42_r10:IC:=.reg [⟨some 33,none,false,.mv (.t 0)⟩,
 ⟨some 34,none,false,.nilck (.t 33)⟩,
 ⟨some 35,none,false,.fad 0 (.t 34)⟩,
 ⟨some 36,none,false,.ldc (.t 35)⟩,
 ⟨some 37,none,false,.mv (.t 7)⟩,
 ⟨some 38,none,false,.call (.f 25) [(.t 36),(.t 37)]⟩,
 ⟨some 32,none,false,.mv (.t 38)⟩,
 ⟨some 39,none,false,.ext (.t 32) 0⟩,
 ⟨some 40,none,false,.ext (.t 32) 1⟩,
 ⟨some 41,none,false,.ext (.t 32) 2⟩,
 ⟨some 8,none,false,.alloc [(.int .i64 0),(.slice none 0 0)]⟩,
 ⟨none,none,false,.st 2 (.t 8) (.t 39)⟩,
 ⟨some 9,none,false,.mv (.t 40)⟩,
 ⟨some 10,none,false,.mv (.t 41)⟩] (some [0,6,7,8,9,10])
def ir42_r11:IC:=.reg [⟨some 42,none,false,.mv (.t 10)⟩] (some [0,6,7,8,9,10,42])
def ir42_r12:IC:=.reg [⟨some 44,none,false,.cmp .eql (.t 42) (.k (.int .i64 0))⟩,
 ⟨some 43,none,false,.mv (.t 44)⟩] (some [0,6,7,8,9,10,42,43])
def ir42_r13:IC:=.reg [⟨some 45,none,false,.mv (.t 6)⟩,
 ⟨some 46,none,false,.lda 2 (.t 8)⟩,
 ⟨some 47,none,false,.bsl 2 1 [(.int .i64 0),(.slice none 0 0)] [(0,(.t 46))]⟩,
 ⟨some 48,none,false,.app 2 32 (.t 45) (.t 47)⟩,
 ⟨some 49,none,false,.mv (.t 9)⟩,
 ⟨some 6,none,false,.mv (.t 48)⟩,
 ⟨some 7,none,false,.mv (.t 49)⟩] (some [0,6,7])
def ir42_11:IC:=.seq ir42_r13 (.exit 2)
def ir42_r14:IC:=.reg [⟨some 51,none,false,.cmp .eql (.t 42) (.k (.int .i64 60))⟩,
 ⟨some 50,none,false,.mv (.t 51)⟩] (some [0,6,7,10,50])
def ir42_r15:IC:=.reg [⟨some 52,none,false,.mv (.t 0)⟩,
 ⟨some 53,none,false,.mv (.t 0)⟩,
 ⟨some 54,none,false,.nilck (.t 53)⟩,
 ⟨some 55,none,false,.fad 0 (.t 54)⟩,
 ⟨some 56,none,false,.ldc (.t 55)⟩,
 ⟨some 57,none,false,.mv (.t 7)⟩,
 ⟨some 58,none,false,.gen (.slice 22 (.tmp 56) (some (.tmp 57)) none none)⟩,
 ⟨some 59,none,false,.call (.f 69) [(.t 58)]⟩,
 ⟨some 60,none,false,.nilck (.t 52)⟩,
 ⟨some 61,none,false,.fad 0 (.t 60)⟩,
 ⟨none,none,false,.st 1 (.t 61) (.t 59)⟩] (some [6])
def ir42_r16:IC:=.reg [⟨some 62,none,false,.mv (.t 6)⟩,
 ⟨some 4,none,false,.mv (.t 62)⟩,
 ⟨some 5,none,false,.mv (.k (.int .i64 0))⟩] (some [4,5])
def ir42_12:IC:=.seq ir42_r16 .ret
def ir42_13:IC:=.seq ir42_r15 ir42_12
def ir42_14:IC:=.cond (.t 50) ir42_13 .skip
def ir42_15:IC:=.seq ir42_r14 ir42_14
def ir42_16:IC:=.cond (.t 43) ir42_11 ir42_15
def ir42_17:IC:=.seq ir42_r12 ir42_16
def ir42_18:IC:=.block 3 ir42_17
def ir42_19:IC:=.seq ir42_r11 ir42_18
def ir42_r17:IC:=.reg [⟨some 63,none,false,.mv (.t 0)⟩,
 ⟨some 64,none,false,.mv (.t 0)⟩,
 ⟨some 65,none,false,.nilck (.t 63)⟩,
 ⟨some 66,none,false,.fad 0 (.t 65)⟩,
 ⟨none,none,false,.st 1 (.t 66) (.k (.slice none 0 0))⟩,
 ⟨some 67,none,false,.nilck (.t 64)⟩,
 ⟨some 68,none,false,.fad 1 (.t 67)⟩,
 ⟨none,none,false,.st 1 (.t 68) (.k (.bool true))⟩] (some [6,10])
def ir42_r18:IC:=.reg [⟨some 69,none,false,.mv (.t 6)⟩,
 ⟨some 70,none,false,.mv (.t 10)⟩,
 ⟨some 4,none,false,.mv (.t 69)⟩,
 ⟨some 5,none,false,.mv (.t 70)⟩] (some [4,5])
def ir42_20:IC:=.seq ir42_r18 .ret
def ir42_21:IC:=.seq ir42_r17 ir42_20
def ir42_22:IC:=.seq ir42_19 ir42_21
def ir42_23:IC:=.seq ir42_r10 ir42_22
def ir42_24:IC:=.block 2 ir42_23
def ir42_25:IC:=.loop ir42_24
def ir42_26:IC:=.block 1 ir42_25
def ir42_27:IC:=.seq ir42_r9 ir42_26
def ir42_28:IC:=.seq ir42_r8 ir42_27
def ir42_29:IC:=.seq ir42_r7 ir42_28
def ir42_30:IC:=.seq ir42_10 ir42_29
def ir42_31:IC:=.seq ir42_r0 ir42_30
def ir42:IC:=ir42_31
theorem fn42:FnIs Tryd.prog 42 ir42 71 [.tmp 4,.tmp 5]:=⟨Tryd.f42,Tryd.f42.body.getD .skip,Tryd.func42,by kernel_rfl,by kernel_rfl,by kernel_rfl,by kernel_rfl⟩
section
variable {wl kb k bb j:Nat} {L1:List (Option AObj)} {ws:List Int} {s:FdS}
theorem feed_round (I : FdI L1 kb k ws j s) (hj : j < (fdF ws 0).1.length) (hB : isB ws) (hb : ws.length ≤ 1000000) (hbox : L1[kb]? = some (strB (.slice (some ⟨k, 0, none⟩) ws.length openB) false)) (hrow : L1[k]? = some (opR ws)) (hwL : wl ≤ L1.length) :
    ∃ s',FdI L1 kb k ws (j + 1) s'∧ITri Tryd.prog 71 none bb ir42_24 (frFd kb s) [] (Hp wl s.M) (AtF (frFd kb s') (Hp wl s'.M)):=by
 obtain ⟨at_,fs,v,M⟩:=s
 obtain ⟨le,old,len,rv,fd,res,fin,num,fl⟩:=I
 simp only at le old len rv fd res fin num fl
 have hkb:=get_lt hbox
 have hk:=get_lt hrow
 have hl30 : ¬ 30000 < ws.length:=fun h=>by
  have e:getR ws at_ = (0,[],0,5):=by unfold getR; rw [if_pos h]
  rw [fdF_err (by rw [e]; decide)] at num
  simp only [List.length_nil] at num
  omega
 have he:(getR ws at_).2.2.2 = 0:=by
  rcases Classical.em ((getR ws at_).2.2.2 = 0) with h|h
  ·exact h
  ·rw [fdF_err h] at num
   simp only [List.length_nil] at num
   omega
 obtain ⟨nx,en,b1,b2,b3⟩:=getR_ok (by omega) le he
 obtain ⟨kd,pay,hg⟩ : ∃ kd pay,getR ws at_ = (kd,pay,(nx:Int),0):=⟨_,_,by rw [← en,← he]⟩
 have hf:=fdF_ok hg (by omega) b2
 rw [hf] at res fin num
 have mbox:M[kb]? = some (strB (.slice (some ⟨k,0,none⟩) ws.length openB) false):=by rw [old _ hkb]; exact hbox
 have mrow:M[k]? = some (opR ws):=by rw [old _ hk]; exact hrow
 have g1:=get_f (k:=k) (sz:=1) (op:=true) (h:=Hp wl M) at_ rfl hB hb (sees0 rfl (by omega)) (get_hq rfl (by rw [mrow]; rfl))
 rw [hg] at g1
 have hM4:wl≤M.length:=by omega
 have hM5:wl≤M.length + 1:=by omega
 generalize hM2:M++[some (AObj.cells ⟨rows eB pay,1,true⟩),some (AObj.cells ⟨[.int .i64 kd,sO M.length pay.length],1,false⟩)] = M2
 have l2:M2.length = M.length + 2:=by rw [← hM2,List.length_append]; rfl
 have o2 : ∀ (j:Nat) (o:AObj),M[j]? = some (some o)→M2[j]? = some (some o):=fun j o hj=>by rw [← hM2]; exact low_get hj
 have p2:M2[M.length]? = some (opR pay):=by
  rw [← hM2,List.getElem?_append_right (Nat.le_refl _),Nat.sub_self]
  rfl
 have x2:M2[M.length + 1]? = some (some (AObj.cells ⟨[.int .i64 kd,sO M.length pay.length],1,false⟩)):=by
  rw [← hM2,List.getElem?_append_right (by omega),Nat.add_sub_cancel_left]
  rfl
 generalize hM3:M2++[some (AObj.cells ⟨[.int .i64 kd,sO M.length pay.length],2,false⟩)] = M3
 have l3:M3.length = M2.length + 1:=by rw [← hM3,List.length_append]; rfl
 have o3 : ∀ (j:Nat) (o:AObj),M2[j]? = some (some o)→M3[j]? = some (some o):=fun j o hj=>by rw [← hM3]; exact low_get hj
 have x3:M3[M2.length]? = some (some (AObj.cells ⟨[.int .i64 kd,sO M.length pay.length],2,false⟩)):=by
  rw [← hM3,List.getElem?_append_right (Nat.le_refl _),Nat.sub_self]
  rfl
 have rv3:=(rv.mono fun j o _=>o2 j o).mono fun j o _=>o3 j o
 obtain ⟨M4,l4,o4,n4,r4,q4⟩:=rv3.app' (wl:=wl) (k2:=M2.length) (o2:=0) (ne:=1) (bytes:=32) (c2:=1) (new:=fcs [(M.length,kd,pay)]) hwL (cells_all x3 rfl) (by decide) rfl (by omega) rfl (by omega)
 rw [← fcs_app] at r4
 have w4 : ∀ (j:Nat) (xs:List Int),M3[j]? = some (opR xs)→M4[j]? = some (opR xs):=fun j xs hj=>n4 _ _ hj (fun cs op e=>by
  injection e with e
  injection e with _ e
  cases e)
 have lfs:(fs++[(M.length,kd,pay)]).length = fs.length + 1:=by rw [List.length_append]; rfl
 refine ⟨⟨nx,fs++[(M.length,kd,pay)],.slice (some ⟨M3.length,0,none⟩) (fs.length + 1) openB,M4⟩,⟨b2,fun i hi=>?_,by show L1.length≤M4.length; omega,.inr ⟨M3.length,openB,by rw [lfs],by rw [lfs]; exact r4⟩,?_,?_,fin,?_,?_⟩,?_⟩
 ·show M4[i]? = _
  rw [o4 i hi,← hM3,List.getElem?_append_left (by omega),← hM2,List.getElem?_append_left (by omega)]
  exact old i hi
 ·intro g hgm
  rcases List.mem_append.1 hgm with hgm|hgm
  ·obtain ⟨h1,h2⟩:=fd g hgm
   exact ⟨h1,w4 _ _ (o3 _ _ (o2 _ _ h2))⟩
  ·simp only [List.mem_singleton] at hgm
   subst hgm
   exact ⟨len,w4 _ _ (o3 _ _ p2)⟩
 ·show (fs++[(M.length,kd,pay)]).map (·.2)++_ = _
  rw [← res,List.map_append,List.append_assoc]
  rfl
 ·show j + 1 + (fdF ws nx).1.length = _
  rw [← num]
  simp only [List.length_cons]
  omega
 ·show (fs++[(M.length,kd,pay)]).length≤nx
  rw [lfs]
  omega
 ·refine ITri.block ?_
  refine ITri.seq ?_
  refine ITri.reg pok ?_; simp -implicitDefEqProofs (disch:=first|decide|exact of_eq_true (eq_true rfl)|omega|assumption) only [mbox, ↓vcD,vcE,↓vcG,vcF,evs,evP,evB,intsOf,fillC,Value.cells,pt,Value.oneCell',reduceIte,reduceCtorEq,Nat.reduceEqDiff,Nat.reduceAdd,Nat.reduceMul,Nat.reduceLT,Nat.reduceBEq,Nat.reduceLeDiff,Nat.reduceSub]
  refine ⟨_,_,g1,?_⟩
  simp -implicitDefEqProofs (disch:=first|decide|exact of_eq_true (eq_true rfl)|omega|assumption) only [news_c,news_n,apd_get,apd_get0,apd_set0,apd_set,List.length_append,List.append_assoc,Nat.add_assoc,hM5, ↓vcD,vcE,↓vcG,vcF,evs,evP,evB,intsOf,fillC,Value.cells,pt,Value.oneCell',reduceIte,reduceCtorEq,Nat.reduceEqDiff,Nat.reduceAdd,Nat.reduceMul,Nat.reduceLT,Nat.reduceBEq,Nat.reduceLeDiff,Nat.reduceSub]
  rw [hM2]
  refine ITri.seq ?_
  refine ITri.seq ?_
  refine ITri.reg pok ?_; simp -implicitDefEqProofs (disch:=first|decide|exact of_eq_true (eq_true rfl)|omega|assumption) only [↓vcD,vcE,↓vcG,vcF,evs,evP,evB,intsOf,fillC,Value.cells,pt,Value.oneCell',reduceIte,reduceCtorEq,Nat.reduceEqDiff,Nat.reduceAdd,Nat.reduceMul,Nat.reduceLT,Nat.reduceBEq,Nat.reduceLeDiff,Nat.reduceSub]
  refine ITri.block ?_
  refine ITri.seq ?_
  refine ITri.reg pok ?_; simp -implicitDefEqProofs (disch:=first|decide|exact of_eq_true (eq_true rfl)|omega|assumption) only [decide_true, ↓vcD,vcE,↓vcG,vcF,evs,evP,evB,intsOf,fillC,Value.cells,pt,Value.oneCell',reduceIte,reduceCtorEq,Nat.reduceEqDiff,Nat.reduceAdd,Nat.reduceMul,Nat.reduceLT,Nat.reduceBEq,Nat.reduceLeDiff,Nat.reduceSub]
  refine ITri.cond (v:=true) rfl (fun _=>?_) (fun h=>by cases h)
  refine ITri.seq ?_
  refine ITri.reg pok ?_; simp -implicitDefEqProofs (disch:=first|decide|exact of_eq_true (eq_true rfl)|omega|assumption) only [x2, ↓vcD,vcE,↓vcG,vcF,evs,evP,evB,intsOf,fillC,Value.cells,pt,Value.oneCell',reduceIte,reduceCtorEq,Nat.reduceEqDiff,Nat.reduceAdd,Nat.reduceMul,Nat.reduceLT,Nat.reduceBEq,Nat.reduceLeDiff,Nat.reduceSub]
  rw [hM3]
  refine q4 _ ?_
  refine ITri.exit ?_; try simp -implicitDefEqProofs (disch:=first|decide|exact of_eq_true (eq_true rfl)|omega|assumption) only [↓vcD,vcE,↓vcG,vcF,evs,evP,evB,intsOf,fillC,Value.cells,pt,Value.oneCell',reduceIte,reduceCtorEq,Nat.reduceEqDiff,Nat.reduceAdd,Nat.reduceMul,Nat.reduceLT,Nat.reduceBEq,Nat.reduceLeDiff,Nat.reduceSub]
  exact AtF.mk ⟨rfl,rfl,rfl,trivial⟩
structure FdR (L1:List (Option AObj)) (kb:Nat) (ws:List Int) (v:Value) (e:Int) (L' : List (Option AObj)) (k' : Nat) (fs:List FrT):Prop where
 old : ∀ i,i < L1.length→i≠kb→L'[i]? = L1[i]?
 len:L1.length≤L'.length
 rv:RwV L1.length L' v fs.length 2 (fcs fs)
 fd:FD L1.length L' fs
 res:fs.map (·.2) = (fdF ws 0).1
 err:e = if (fdF ws 0).2.2 = 60 then 0 else (fdF ws 0).2.2
 cut:(fdF ws 0).2.2 = 60→L1.length≤k'∧L'[kb]? = some (strB (.slice (some ⟨k',0,none⟩) (ws.length - (fdF ws 0).2.1) openB) false)∧L'[k']? = some (opR (ws.drop (fdF ws 0).2.1))
 brk:(fdF ws 0).2.2≠60→L'[kb]? = some (strB (.slice none 0 0) true)
 fne:(fdF ws 0).2.2 = 60→∀ f∈fs,f.1 < k'
theorem fdr_cut {X : List (Option AObj)} {k' : Nat} (I : FdI L1 kb k ws j s) (he : fdF ws s.at_ = ([], s.at_, 60)) (hkb : kb < L1.length) (hX : ∀ i, i < s.M.length → X[i]? = s.M[i]?) (hl : s.M.length ≤ X.length) (hk' : s.M.length ≤ k') (hr : X[k']? = some (opR (ws.drop s.at_))) :
    FdR L1 kb ws s.v 0 (X.set kb (strB (.slice (some ⟨k',0,none⟩) (ws.length - s.at_) openB) false)) k' s.fs:=by
 obtain ⟨le,old,len,rv,fd,res,fin,num,fl⟩:=I
 rw [he] at res fin num
 have e2:(fdF ws 0).2 = (s.at_,60):=fin.symm
 have hset : ∀ (i:Nat) (o:AObj),L1.length≤i→s.M[i]? = some (some o)→(X.set kb (strB (.slice (some ⟨k',0,none⟩) (ws.length - s.at_) openB) false))[i]? = some (some o):=fun i o h1 h2=>by
  rw [List.getElem?_set_ne (by omega),hX i (get_lt h2)]
  exact h2
 refine ⟨fun i hi hne=>?_,by rw [List.length_set]; omega,rv.mono hset,fd.mono fun i xs=>hset i _,by rw [← res,List.append_nil],by rw [e2]; rfl,fun _=>⟨by omega,?_,?_⟩,fun h=>absurd (by rw [e2]) h,fun _ f hf=>?_⟩
 ·rw [List.getElem?_set_ne (by omega),hX i (by omega)]
  exact old i hi
 ·rw [e2,List.getElem?_set_self (by omega)]
 ·rw [e2,List.getElem?_set_ne (by omega)]
  exact hr
 ·have:=get_lt (fd f hf).2
  omega
theorem fdr_brk {X : List (Option AObj)} {E : Int} (I : FdI L1 kb k ws j s) (he : fdF ws s.at_ = ([], s.at_, E)) (h60 : E ≠ 60) (hkb : kb < L1.length) (hX : ∀ i, i < s.M.length → X[i]? = s.M[i]?) (hl : s.M.length ≤ X.length) :
    FdR L1 kb ws s.v E (X.set kb (strB (.slice none 0 0) true)) 0 s.fs:=by
 obtain ⟨le,old,len,rv,fd,res,fin,num,fl⟩:=I
 rw [he] at res fin num
 have e2:(fdF ws 0).2 = (s.at_,E):=fin.symm
 have hset : ∀ (i:Nat) (o:AObj),L1.length≤i→s.M[i]? = some (some o)→(X.set kb (strB (.slice none 0 0) true))[i]? = some (some o):=fun i o h1 h2=>by
  rw [List.getElem?_set_ne (by omega),hX i (get_lt h2)]
  exact h2
 refine ⟨fun i hi hne=>?_,by rw [List.length_set]; omega,rv.mono hset,fd.mono fun i xs=>hset i _,by rw [← res,List.append_nil],by rw [e2,if_neg h60],fun h=>absurd (by rw [e2] at h; exact h) h60,fun _=>by rw [List.getElem?_set_self (by omega)],fun h=>absurd (by rw [e2] at h; exact h) h60⟩
 rw [List.getElem?_set_ne (by omega),hX i (by omega)]
 exact old i hi
theorem feed_l (hB : isB ws) (hb : ws.length ≤ 1000000) (hbox : L1[kb]? = some (strB (.slice (some ⟨k, 0, none⟩) ws.length openB) false)) (hrow : L1[k]? = some (opR ws)) (hwk : wl ≤ kb) (hwL : wl ≤ L1.length) :
    ∃ v e L' k' fs,FdR L1 kb ws v e L' k' fs∧ITri Tryd.prog 71 none bb ir42_28 [(0,pt kb)] [] (Hp wl L1) (EndX Tryd.prog [.tmp 4,.tmp 5] (.tuple #[v,.int .i64 e]) (Hp wl L')):=by
 have hkb:=get_lt hbox
 have hk:=get_lt hrow
 have I0:FdI L1 kb k ws 0 ⟨0,[],.slice none 0 0,L1⟩:=⟨Nat.zero_le _,fun _ _=>rfl,Nat.le_refl _,.inl ⟨rfl,rfl,rfl⟩,(fun f hf=>by cases hf),rfl,rfl,Nat.zero_add _,Nat.le_refl _⟩
 obtain ⟨f,f0,f1,f2⟩:=seq_ex (FdI L1 kb k ws) (fun _ s s'=>ITri Tryd.prog 71 none bb ir42_24 (frFd kb s) [] (Hp wl s.M) (AtF (frFd kb s') (Hp wl s'.M))) (fdF ws 0).1.length _ I0 fun j s hj I=>feed_round I hj hB hb hbox hrow hwL
 have I:=f1 _ (Nat.le_refl _)
 generalize hN:(fdF ws 0).1.length = N at *
 have hz:=f0
 have fin : ∃ e L' k',FdR L1 kb ws (f N).v e L' k' (f N).fs∧ITri Tryd.prog 71 none bb ir42_24 (frFd kb (f N)) [] (Hp wl (f N).M) (LoopQ 71 bb none (fun j:Nat=>frFd kb (f j)) (fun _=>[]) (fun j=>Hp wl (f j).M) (fun j=>j≤N) (fun j=>N - j) N (BlkQ 1 (EndX Tryd.prog [.tmp 4,.tmp 5] (.tuple #[(f N).v,.int .i64 e]) (Hp wl L')))):=by
  generalize f N = s at *
  have le:=I.le
  have old:=I.old
  have len:=I.len
  have num:=I.num
  have hnil:(fdF ws s.at_).1 = []:=List.eq_nil_of_length_eq_zero (by omega)
  have he:(getR ws s.at_).2.2.2≠0:=fun e=>by
   have hl30:ws.length≤30000:=by
    rcases Nat.lt_or_ge 30000 ws.length with h|h
    ·unfold getR at e; rw [if_pos h] at e; cases e
    ·exact h
   obtain ⟨nx,en,b1,b2,b3⟩:=getR_ok hl30 le e
   rw [fdF,dif_pos ⟨e,by rw [en]; omega,by rw [en]; omega⟩] at hnil
   cases hnil
  have hfd:=fdF_err he
  have hpay:(getR ws s.at_).2.1 = []∧(getR ws s.at_).1 = 0∧(getR ws s.at_).2.2.1 = 0:=getR_bad he
  obtain ⟨at_,fs,v,M⟩:=s
  simp only at le old len num hnil he hfd hpay ⊢
  have mbox:M[kb]? = some (strB (.slice (some ⟨k,0,none⟩) ws.length openB) false):=by rw [old _ hkb]; exact hbox
  have mrow:M[k]? = some (opR ws):=by rw [old _ hk]; exact hrow
  have g1:=get_f (k:=k) (sz:=1) (op:=true) (h:=Hp wl M) at_ rfl hB hb (sees0 rfl (by omega)) (get_hq rfl (by rw [mrow]; rfl))
  obtain ⟨p1,p2,p3⟩:=hpay
  unfold gtV at g1
  rw [p1,p2,p3] at g1
  generalize hE:(getR ws at_).2.2.2 = E at *
  have hM5:wl≤M.length + 1:=by omega
  obtain ⟨M2,hM2⟩ : ∃ M2,M++[some (AObj.cells ⟨rows eB [],1,true⟩),some (AObj.cells ⟨[.int .i64 0,sO M.length 0],1,false⟩)] = M2:=⟨_,rfl⟩
  have l2:M2.length = M.length + 2:=by rw [← hM2,List.length_append]; rfl
  have o2 : ∀ i,i < M.length→M2[i]? = M[i]?:=fun i hi=>by rw [← hM2,List.getElem?_append_left hi]
  have b2:M2[kb]? = some (strB (.slice (some ⟨k,0,none⟩) ws.length openB) false):=by rw [o2 _ (by omega)]; exact mbox
  have r2:M2[k]? = some (opR ws):=by rw [o2 _ (by omega)]; exact mrow
  have rd : ∀ {Q:AEx→Fr→List Nat→AH→Prop},ITri Tryd.prog 71 none bb ir42_22 [(0,pt kb),(6,v),(7,.int .i64 at_),(10,.int .i64 E)] [] (Hp wl M2) (BlkQ 2 Q)→ITri Tryd.prog 71 none bb ir42_24 (frFd kb ⟨at_,fs,v,M⟩) [] (Hp wl M) Q:=by
   intro Q q
   refine ITri.block ?_
   refine ITri.seq ?_
   refine ITri.reg pok ?_; simp -implicitDefEqProofs (disch:=first|decide|exact of_eq_true (eq_true rfl)|omega|assumption) only [mbox, ↓vcD,vcE,↓vcG,vcF,evs,evP,evB,intsOf,fillC,Value.cells,pt,Value.oneCell',reduceIte,reduceCtorEq,Nat.reduceEqDiff,Nat.reduceAdd,Nat.reduceMul,Nat.reduceLT,Nat.reduceBEq,Nat.reduceLeDiff,Nat.reduceSub]
   refine ⟨_,_,g1,?_⟩
   simp -implicitDefEqProofs (disch:=first|decide|exact of_eq_true (eq_true rfl)|omega|assumption) only [news_c,news_n,apd_get,apd_get0,apd_set0,apd_set,List.length_append,List.append_assoc,Nat.add_assoc,hM5, ↓vcD,vcE,↓vcG,vcF,evs,evP,evB,intsOf,fillC,Value.cells,pt,Value.oneCell',reduceIte,reduceCtorEq,Nat.reduceEqDiff,Nat.reduceAdd,Nat.reduceMul,Nat.reduceLT,Nat.reduceBEq,Nat.reduceLeDiff,Nat.reduceSub]
   rw [hM2]
   exact ITri.weak (l':=[(0,pt kb),(6,v),(7,.int .i64 at_),(10,.int .i64 E)]) (ms':=[]) (h':=Hp wl M2) (Wk.sub ⟨rfl,rfl,rfl,rfl,trivial⟩) q
  have hE0 : ¬ E = 0:=he
  have hz2 : ∀ x:Option AObj,(M2.set kb x)[kb]? = some x:=fun x=>List.getElem?_set_self (by omega)
  have hz3:=hz2 (strB (.slice none 0 0) false)
  have hX : ∀ i,i < M.length→M2[i]? = M[i]?:=o2
  by_cases h60:E = 60
  ·subst h60
   have pre : ∀ {Q:AEx→Fr→List Nat→AH→Prop},ITri Tryd.prog 71 none bb ir42_13 [(0,pt kb),(6,v),(7,.int .i64 at_)] [] (Hp wl M2) (BlkQ 3 (SeqQ Tryd.prog 71 none bb ir42_21 (BlkQ 2 Q)))→ITri Tryd.prog 71 none bb ir42_22 [(0,pt kb),(6,v),(7,.int .i64 at_),(10,.int .i64 60)] [] (Hp wl M2) (BlkQ 2 Q):=by
    intro Q q
    refine ITri.seq ?_
    refine ITri.seq ?_
    refine ITri.reg pok ?_; simp -implicitDefEqProofs (disch:=first|decide|exact of_eq_true (eq_true rfl)|omega|assumption) only [↓vcD,vcE,↓vcG,vcF,evs,evP,evB,intsOf,fillC,Value.cells,pt,Value.oneCell',reduceIte,reduceCtorEq,Nat.reduceEqDiff,Nat.reduceAdd,Nat.reduceMul,Nat.reduceLT,Nat.reduceBEq,Nat.reduceLeDiff,Nat.reduceSub]
    refine ITri.block ?_
    refine ITri.seq ?_
    refine ITri.reg pok ?_; simp -implicitDefEqProofs (disch:=first|decide|exact of_eq_true (eq_true rfl)|omega|assumption) only [hE0,decide_false, ↓vcD,vcE,↓vcG,vcF,evs,evP,evB,intsOf,fillC,Value.cells,pt,Value.oneCell',reduceIte,reduceCtorEq,Nat.reduceEqDiff,Nat.reduceAdd,Nat.reduceMul,Nat.reduceLT,Nat.reduceBEq,Nat.reduceLeDiff,Nat.reduceSub]
    refine ITri.cond (v:=false) rfl (fun h=>by cases h) (fun _=>?_)
    refine ITri.seq ?_
    refine ITri.reg pok ?_; simp -implicitDefEqProofs (disch:=first|decide|exact of_eq_true (eq_true rfl)|omega|assumption) only [decide_true, ↓vcD,vcE,↓vcG,vcF,evs,evP,evB,intsOf,fillC,Value.cells,pt,Value.oneCell',reduceIte,reduceCtorEq,Nat.reduceEqDiff,Nat.reduceAdd,Nat.reduceMul,Nat.reduceLT,Nat.reduceBEq,Nat.reduceLeDiff,Nat.reduceSub]
    refine ITri.cond (v:=true) rfl (fun _=>?_) (fun h=>by cases h)
    exact ITri.weak (l':=[(0,pt kb),(6,v),(7,.int .i64 at_)]) (ms':=[]) (h':=Hp wl M2) (Wk.sub ⟨rfl,rfl,rfl,trivial⟩) q
   rcases Nat.lt_or_ge at_ ws.length with hlt|hge
   ·have hm0:(ws.drop at_).length = ws.length - at_:=List.length_drop
    have c1:=cloneB_s (wl:=wl) (ks:=k) (L:=M2) (cs:=rows eB ws) (sz:=1) (op:=true) (o:=at_) (c:=openB + at_) (m:=ws.length - at_) (ys:=ws.drop at_) (by rw [r2]; rfl) (fun i hi=>by
     rw [getB (by omega)]
     rw [hm0] at hi
     have:=nth_drop' (xs:=ws) (o:=at_) (j:=i)
     rw [← this]) hm0 (by omega) (by omega)
    refine ⟨0,(M2++[some (AObj.cells ⟨[],1,false⟩),some (AObj.cells ⟨rows eB (ws.drop at_),1,true⟩)]).set kb (strB (.slice (some ⟨M2.length + 1,0,none⟩) (ws.length - at_) openB) false),M2.length + 1,?_,rd (pre ?_)⟩
    ·exact fdr_cut (s := ⟨at_, fs, v, M⟩) I hfd hkb (fun i hi => by rw [List.getElem?_append_left (by show i < M2.length; have : i < M.length := hi; omega)]; exact hX i hi) (by rw [List.length_append]; show M.length ≤ _; omega) (by show M.length ≤ _; omega) (by
       rw [List.getElem?_append_right (by omega),Nat.add_sub_cancel_left]
       rfl)
    ·refine ITri.seq ?_
     refine ITri.reg pok ?_; simp -implicitDefEqProofs (disch:=first|decide|exact of_eq_true (eq_true rfl)|omega|assumption) only [b2, ↓vcD,vcE,↓vcG,vcF,evs,evP,evB,intsOf,fillC,Value.cells,pt,Value.oneCell',reduceIte,reduceCtorEq,Nat.reduceEqDiff,Nat.reduceAdd,Nat.reduceMul,Nat.reduceLT,Nat.reduceBEq,Nat.reduceLeDiff,Nat.reduceSub]
     refine gen_fromO (i:=at_) u_slB i_u8 sz_u8 rfl rfl rfl (.inl hlt) ?_
     try simp -implicitDefEqProofs (disch:=first|decide|exact of_eq_true (eq_true rfl)|omega|assumption) only [↓vcD,vcE,↓vcG,vcF,evs,evP,evB,intsOf,fillC,Value.cells,pt,Value.oneCell',reduceIte,reduceCtorEq,Nat.reduceEqDiff,Nat.reduceAdd,Nat.reduceMul,Nat.reduceLT,Nat.reduceBEq,Nat.reduceLeDiff,Nat.reduceSub]
     refine ⟨_,_,c1,?_⟩
     have b3 : ∀ T:List (Option AObj),(M2++T)[kb]? = some (strB (.slice (some ⟨k,0,none⟩) ws.length openB) false):=fun T=>low_get b2
     simp -implicitDefEqProofs (disch:=first|decide|exact of_eq_true (eq_true rfl)|omega|assumption) only [b3,hwk, ↓vcD,vcE,↓vcG,vcF,evs,evP,evB,intsOf,fillC,Value.cells,pt,Value.oneCell',reduceIte,reduceCtorEq,Nat.reduceEqDiff,Nat.reduceAdd,Nat.reduceMul,Nat.reduceLT,Nat.reduceBEq,Nat.reduceLeDiff,Nat.reduceSub]
     refine ITri.seq ?_
     refine ITri.reg pok ?_; simp -implicitDefEqProofs (disch:=first|decide|exact of_eq_true (eq_true rfl)|omega|assumption) only [↓vcD,vcE,↓vcG,vcF,evs,evP,evB,intsOf,fillC,Value.cells,pt,Value.oneCell',reduceIte,reduceCtorEq,Nat.reduceEqDiff,Nat.reduceAdd,Nat.reduceMul,Nat.reduceLT,Nat.reduceBEq,Nat.reduceLeDiff,Nat.reduceSub]
     refine ITri.ret ?_
     exact EndX.mk (by simp) (by rfl) (by rfl) (by rfl)
   ·obtain rfl:at_ = ws.length:=by omega
    have hdr:ws.drop ws.length = []:=List.drop_length
    by_cases h0:ws.length = 0
    ·have hw0:ws = []:=List.eq_nil_of_length_eq_zero h0
     subst hw0
     have c1:=clone_e (h:=Hp wl M2) (k:=k) (sees0 rfl (by omega)) (get_sees (get_hq rfl (by rw [r2]; rfl)))
     refine ⟨0,(M2++[some (AObj.cells ⟨[],1,true⟩)]).set kb (strB (.slice (some ⟨M2.length,0,none⟩) 0 openB) false),M2.length,?_,rd (pre ?_)⟩
     ·exact fdr_cut (s := ⟨0, fs, v, M⟩) I hfd hkb (fun i hi => by rw [List.getElem?_append_left (by show i < M2.length; have : i < M.length := hi; omega)]; exact hX i hi) (by rw [List.length_append]; show M.length ≤ _; omega) (by show M.length ≤ _; omega) (by
        rw [List.getElem?_append_right (by omega),Nat.sub_self]
        rfl)
     ·refine ITri.seq ?_
      refine ITri.reg pok ?_; simp -implicitDefEqProofs (disch:=first|decide|exact of_eq_true (eq_true rfl)|omega|assumption) only [b2, ↓vcD,vcE,↓vcG,vcF,evs,evP,evB,intsOf,fillC,Value.cells,pt,Value.oneCell',reduceIte,reduceCtorEq,Nat.reduceEqDiff,Nat.reduceAdd,Nat.reduceMul,Nat.reduceLT,Nat.reduceBEq,Nat.reduceLeDiff,Nat.reduceSub]
      refine gen_fromO (i:=0) u_slB i_u8 sz_u8 rfl rfl rfl (.inr rfl) ?_
      try simp -implicitDefEqProofs (disch:=first|decide|exact of_eq_true (eq_true rfl)|omega|assumption) only [↓vcD,vcE,↓vcG,vcF,evs,evP,evB,intsOf,fillC,Value.cells,pt,Value.oneCell',reduceIte,reduceCtorEq,Nat.reduceEqDiff,Nat.reduceAdd,Nat.reduceMul,Nat.reduceLT,Nat.reduceBEq,Nat.reduceLeDiff,Nat.reduceSub]
      refine ⟨_,_,c1,?_⟩
      have b3 : ∀ T:List (Option AObj),(M2++T)[kb]? = some (strB (.slice (some ⟨k,0,none⟩) 0 openB) false):=fun T=>low_get b2
      simp -implicitDefEqProofs (disch:=first|decide|exact of_eq_true (eq_true rfl)|omega|assumption) only [news_c,news_n,b3,hwk, ↓vcD,vcE,↓vcG,vcF,evs,evP,evB,intsOf,fillC,Value.cells,pt,Value.oneCell',reduceIte,reduceCtorEq,Nat.reduceEqDiff,Nat.reduceAdd,Nat.reduceMul,Nat.reduceLT,Nat.reduceBEq,Nat.reduceLeDiff,Nat.reduceSub]
      refine ITri.seq ?_
      refine ITri.reg pok ?_; simp -implicitDefEqProofs (disch:=first|decide|exact of_eq_true (eq_true rfl)|omega|assumption) only [↓vcD,vcE,↓vcG,vcF,evs,evP,evB,intsOf,fillC,Value.cells,pt,Value.oneCell',reduceIte,reduceCtorEq,Nat.reduceEqDiff,Nat.reduceAdd,Nat.reduceMul,Nat.reduceLT,Nat.reduceBEq,Nat.reduceLeDiff,Nat.reduceSub]
      refine ITri.ret ?_
      exact EndX.mk (by simp) (by rfl) (by rfl) (by rfl)
    ·have c1:=clone_e (h:=Hp wl (M2++[none])) (k:=M2.length) (sees0 rfl (by rw [List.length_append]; omega)) (N_lt.2 (by rw [List.length_append]; exact Nat.lt_succ_self _))
     refine ⟨0,((M2++[none])++[some (AObj.cells ⟨[],1,true⟩)]).set kb (strB (.slice (some ⟨M2.length + 1,0,none⟩) (ws.length - ws.length) openB) false),M2.length + 1,?_,rd (pre ?_)⟩
     ·exact fdr_cut (s := ⟨ws.length, fs, v, M⟩) I hfd hkb (fun i hi => by
        have hi:i < M.length:=hi
        rw [List.getElem?_append_left (by rw [List.length_append]; omega),List.getElem?_append_left (by omega)]; exact hX i hi) (by rw [List.length_append,List.length_append]; show M.length≤_; omega) (by show M.length≤_; omega) (by
        rw [List.getElem?_append_right (by rw [List.length_append]; simp),List.length_append,hdr]
        simp [rows])
     ·refine ITri.seq ?_
      refine ITri.reg pok ?_; simp -implicitDefEqProofs (disch:=first|decide|exact of_eq_true (eq_true rfl)|omega|assumption) only [b2, ↓vcD,vcE,↓vcG,vcF,evs,evP,evB,intsOf,fillC,Value.cells,pt,Value.oneCell',reduceIte,reduceCtorEq,Nat.reduceEqDiff,Nat.reduceAdd,Nat.reduceMul,Nat.reduceLT,Nat.reduceBEq,Nat.reduceLeDiff,Nat.reduceSub]
      refine gen_endO u_slB i_u8 rfl rfl rfl h0 ?_
      try simp -implicitDefEqProofs (disch:=first|decide|exact of_eq_true (eq_true rfl)|omega|assumption) only [↓vcD,vcE,↓vcG,vcF,evs,evP,evB,intsOf,fillC,Value.cells,pt,Value.oneCell',reduceIte,reduceCtorEq,Nat.reduceEqDiff,Nat.reduceAdd,Nat.reduceMul,Nat.reduceLT,Nat.reduceBEq,Nat.reduceLeDiff,Nat.reduceSub]
      rw [Hq_bump]
      refine ⟨_,_,c1,?_⟩
      have b3 : ∀ T:List (Option AObj),(M2++[none]++T)[kb]? = some (strB (.slice (some ⟨k,0,none⟩) ws.length openB) false):=fun T=>low_get (low_get b2)
      simp -implicitDefEqProofs (disch:=first|decide|exact of_eq_true (eq_true rfl)|omega|assumption) only [news_c,news_n,b3,hwk,List.length_append,Nat.sub_self, ↓vcD,vcE,↓vcG,vcF,evs,evP,evB,intsOf,fillC,Value.cells,pt,Value.oneCell',reduceIte,reduceCtorEq,Nat.reduceEqDiff,Nat.reduceAdd,Nat.reduceMul,Nat.reduceLT,Nat.reduceBEq,Nat.reduceLeDiff,Nat.reduceSub]
      refine ITri.seq ?_
      refine ITri.reg pok ?_; simp -implicitDefEqProofs (disch:=first|decide|exact of_eq_true (eq_true rfl)|omega|assumption) only [↓vcD,vcE,↓vcG,vcF,evs,evP,evB,intsOf,fillC,Value.cells,pt,Value.oneCell',reduceIte,reduceCtorEq,Nat.reduceEqDiff,Nat.reduceAdd,Nat.reduceMul,Nat.reduceLT,Nat.reduceBEq,Nat.reduceLeDiff,Nat.reduceSub]
      refine ITri.ret ?_
      exact EndX.mk (by simp) (by rfl) (by rfl) (by rfl)
  ·refine ⟨E,M2.set kb (strB (.slice none 0 0) true),0,fdr_brk I hfd h60 hkb hX (by show M.length≤M2.length; omega),rd ?_⟩
   refine ITri.seq ?_
   refine ITri.seq ?_
   refine ITri.reg pok ?_; simp -implicitDefEqProofs (disch:=first|decide|exact of_eq_true (eq_true rfl)|omega|assumption) only [↓vcD,vcE,↓vcG,vcF,evs,evP,evB,intsOf,fillC,Value.cells,pt,Value.oneCell',reduceIte,reduceCtorEq,Nat.reduceEqDiff,Nat.reduceAdd,Nat.reduceMul,Nat.reduceLT,Nat.reduceBEq,Nat.reduceLeDiff,Nat.reduceSub]
   refine ITri.block ?_
   refine ITri.seq ?_
   refine ITri.reg pok ?_; simp -implicitDefEqProofs (disch:=first|decide|exact of_eq_true (eq_true rfl)|omega|assumption) only [hE0,decide_false, ↓vcD,vcE,↓vcG,vcF,evs,evP,evB,intsOf,fillC,Value.cells,pt,Value.oneCell',reduceIte,reduceCtorEq,Nat.reduceEqDiff,Nat.reduceAdd,Nat.reduceMul,Nat.reduceLT,Nat.reduceBEq,Nat.reduceLeDiff,Nat.reduceSub]
   refine ITri.cond (v:=false) rfl (fun h=>by cases h) (fun _=>?_)
   refine ITri.seq ?_
   refine ITri.reg pok ?_; simp -implicitDefEqProofs (disch:=first|decide|exact of_eq_true (eq_true rfl)|omega|assumption) only [h60,decide_false, ↓vcD,vcE,↓vcG,vcF,evs,evP,evB,intsOf,fillC,Value.cells,pt,Value.oneCell',reduceIte,reduceCtorEq,Nat.reduceEqDiff,Nat.reduceAdd,Nat.reduceMul,Nat.reduceLT,Nat.reduceBEq,Nat.reduceLeDiff,Nat.reduceSub]
   refine ITri.cond (v:=false) rfl (fun h=>by cases h) (fun _=>?_); refine ITri.skip ?_; simp only [SeqQ_normal,BlkQ_normal]
   refine ITri.seq ?_
   refine ITri.reg pok ?_; simp -implicitDefEqProofs (disch:=first|decide|exact of_eq_true (eq_true rfl)|omega|assumption) only [b2,hwk,hz3,List.set_set, ↓vcD,vcE,↓vcG,vcF,evs,evP,evB,intsOf,fillC,Value.cells,pt,Value.oneCell',reduceIte,reduceCtorEq,Nat.reduceEqDiff,Nat.reduceAdd,Nat.reduceMul,Nat.reduceLT,Nat.reduceBEq,Nat.reduceLeDiff,Nat.reduceSub]
   refine ITri.seq ?_
   refine ITri.reg pok ?_; simp -implicitDefEqProofs (disch:=first|decide|exact of_eq_true (eq_true rfl)|omega|assumption) only [↓vcD,vcE,↓vcG,vcF,evs,evP,evB,intsOf,fillC,Value.cells,pt,Value.oneCell',reduceIte,reduceCtorEq,Nat.reduceEqDiff,Nat.reduceAdd,Nat.reduceMul,Nat.reduceLT,Nat.reduceBEq,Nat.reduceLeDiff,Nat.reduceSub]
   refine ITri.ret ?_
   exact EndX.mk (by simp) (by rfl) (by rfl) (by rfl)
 obtain ⟨e,L',k',F,T⟩:=fin
 refine ⟨_,e,L',k',_,F,?_⟩
 refine ITri.seq ?_
 refine ITri.reg pok ?_; simp -implicitDefEqProofs (disch:=first|decide|exact of_eq_true (eq_true rfl)|omega|assumption) only [↓vcD,vcE,↓vcG,vcF,evs,evP,evB,intsOf,fillC,Value.cells,pt,Value.oneCell',reduceIte,reduceCtorEq,Nat.reduceEqDiff,Nat.reduceAdd,Nat.reduceMul,Nat.reduceLT,Nat.reduceBEq,Nat.reduceLeDiff,Nat.reduceSub]
 refine ITri.seq ?_
 refine ITri.reg pok ?_; simp -implicitDefEqProofs (disch:=first|decide|exact of_eq_true (eq_true rfl)|omega|assumption) only [↓vcD,vcE,↓vcG,vcF,evs,evP,evB,intsOf,fillC,Value.cells,pt,Value.oneCell',reduceIte,reduceCtorEq,Nat.reduceEqDiff,Nat.reduceAdd,Nat.reduceMul,Nat.reduceLT,Nat.reduceBEq,Nat.reduceLeDiff,Nat.reduceSub]
 refine ITri.block ?_
 have z0:frFd kb (f 0) = [(0,pt kb),(6,.slice none 0 0),(7,.int .i64 0)]:=by rw [f0]; rfl
 have z1:(f 0).M = L1:=by rw [f0]
 refine ITri.loop (fun j:Nat=>frFd kb (f j)) (fun _=>[]) (fun j=>Hp wl (f j).M) (fun j=>j≤N) (fun j=>N - j) 0 (Nat.zero_le _) (by rw [z0,z1]; exact Wk.sub ⟨rfl,rfl,rfl,trivial⟩) fun j hj=>?_
 by_cases hjN:j < N
 ·exact ITri.atF (f2 j hjN) (LoopQ.next (j + 1) (by omega) (by omega) (Wk.sub ⟨rfl,rfl,rfl,trivial⟩))
 ·obtain rfl:j = N:=by omega
  exact T
end
end Go.Proofs.YtgjokhodccacoaaDoor
