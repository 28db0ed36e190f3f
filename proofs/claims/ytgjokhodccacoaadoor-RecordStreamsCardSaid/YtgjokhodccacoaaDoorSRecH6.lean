import Derived.Test.YtgjokhodccacoaaDoorSRecH2
import Derived.Test.YtgjokhodccacoaaDoorSRecH4
set_option linter.unusedSimpArgs false
set_option linter.unusedVariables false
namespace Go.Proofs.YtgjokhodccacoaaDoor
open Go.RowKit Go.Vm
set_option maxRecDepth 100000
theorem getR_frF {xs : List Int} {at_ : Nat} (hl : xs.length ≤ 30000) (hk : at_ ≤ xs.length) : getR xs at_ = match frF xs at_ with
    | .ok kd a m nx=>(kd,sub xs a m,(nx:Int),0)
    | .err e _=>(0,[],0,e):=by
 unfold getR
 rw [if_neg (by omega),if_neg (by omega),Int.toNat_natCast]
 cases frF xs at_ <;> rfl
theorem getR_drop {xs:List Int} {a p:Nat} (hl:xs.length≤30000) (ha:a + p≤xs.length):(getR xs ((a + p:Nat):Int)).1 = (getR (xs.drop a) p).1∧(getR xs ((a + p:Nat):Int)).2.1 = (getR (xs.drop a) p).2.1∧(getR xs ((a + p:Nat):Int)).2.2.2 = (getR (xs.drop a) p).2.2.2∧((getR (xs.drop a) p).2.2.2 = 0→(getR xs ((a + p:Nat):Int)).2.2.1 = a + (getR (xs.drop a) p).2.2.1):=by
 have hd:(xs.drop a).length = xs.length - a:=List.length_drop
 rw [getR_frF hl ha,getR_frF (by omega) (by omega),frF_drop ha,frF_drop (xs:=xs.drop a) (a:=p) (by omega),List.drop_drop]
 cases hr:frF (xs.drop (a + p)) 0 with
 | err e nx=>exact ⟨rfl,rfl,rfl,fun h=>absurd h (frF_e hr)⟩
 | ok kd q m nx =>
  refine ⟨rfl,?_,rfl,fun _=>?_⟩
  ·show sub xs (a + p + q) m = sub (xs.drop a) (p + q) m
   rw [Nat.add_assoc]
   exact sub_drop
  ·show ((a + p + nx:Nat):Int) = a + ((p + nx:Nat):Int)
   omega
theorem fdF_cons {ws:List Int} {a:Nat} {f:Int×List Int} {r:List (Int×List Int)} (hl:ws.length≤30000) (ha:a≤ws.length) (h:(fdF ws a).1 = f :: r) : ∃ nx:Nat,getR ws a = (f.1,f.2,(nx:Int),0)∧a < nx∧nx≤ws.length∧(fdF ws nx).1 = r∧(fdF ws nx).2 = (fdF ws a).2:=by
 by_cases he:(getR ws a).2.2.2 = 0
 ·obtain ⟨nx,en,b1,b2,b3⟩:=getR_ok (by omega) ha he
  have e1:getR ws a = ((getR ws a).1,(getR ws a).2.1,(nx:Int),0):=by rw [← en,← he]
  have e:=fdF_ok e1 (by omega) b2
  rw [e] at h ⊢
  injection h with h1 h2
  subst h1
  exact ⟨nx,e1,by omega,b2,h2,rfl⟩
 ·rw [fdF_err he] at h
  cases h
end Go.Proofs.YtgjokhodccacoaaDoor
set_option linter.unusedSimpArgs false
set_option linter.unusedVariables false
namespace Go.Vm
open Go Go.RowKit
section
variable {P:Program} {w:Bool} {t el:TypeId} {f:TypeInfo} {s d e k n c o:Nat} {l:Fr} {h:AH} {K:Value→AH→Prop}
theorem gen_fromA {i : Nat} {x : Int} (hu : P.underlying t = some (.slice el)) (hi : P.info? el = some f) (hsz : f.size = 1) (hl : lk l s = some (.slice (some ⟨k, o, none⟩) n c)) (hc : openB ≤ c) (h1 : lk l d = some (.int .i64 x)) (hx : x = i) (hn : i < n ∨ (i = 0 ∧ n = 0)) (q : K (.slice (some ⟨k, o + i, none⟩) (n - i) (c + i)) h) :
    iStep P w (.gen (.slice t (.tmp s) (some (.tmp d)) none none)) l h K:=by
 subst hx
 refine ⟨_,_,?_,q⟩
 have e1:aEnv (trOf l) (.tmp s) = some (.slice (some ⟨k,o,none⟩) n c):=by simp only [aEnv,trOf_get,hl]
 have e2:aOptV (aEnv (trOf l)) (some (.tmp d)) = some (some (.int .i64 i)):=by simp only [aOptV,aEnv,trOf_get,h1]
 have e4:aOptV (aEnv (trOf l)) none = some none:=rfl
 have n1:natOf (some (.int .i64 (i:Int))) 0 = some i:=natOf_n
 have n2:natOf none n = some n:=rfl
 have n3:natOf none c = some c:=rfl
 have hv:aSlice P t (.slice (some ⟨k,o,none⟩) n c) (some (.int .i64 i)) none none = some (.slice (some ⟨k,o + i,none⟩) (n - i) (c + i)):=by
  simp only [aSlice,hu,hi,n1,n2,n3,hsz]
  rw [if_neg (by omega),if_neg (by simp),if_pos ⟨by omega,Nat.le_refl _,by omega⟩]
  simp only [Addr.add,Nat.mul_one]
  split
  ·rename_i hz; rw [hz]; rfl
  ·rfl
 simp only [aOp,e1,e2,e4,hv]
theorem gen_endA {x : Int} (hu : P.underlying t = some (.slice el)) (hi : P.info? el = some f) (hl : lk l s = some (.slice (some ⟨k, o, none⟩) n c)) (hc : openB ≤ c) (h1 : lk l d = some (.int .i64 x)) (hx : x = n) (h0 : n ≠ 0) (q : K (.slice (some ⟨h.next, 0, none⟩) 0 openB) h.bump) :
    iStep P w (.gen (.slice t (.tmp s) (some (.tmp d)) none none)) l h K:=by
 subst hx
 refine ⟨_,_,?_,q⟩
 have e1:aEnv (trOf l) (.tmp s) = some (.slice (some ⟨k,o,none⟩) n c):=by simp only [aEnv,trOf_get,hl]
 have e2:aOptV (aEnv (trOf l)) (some (.tmp d)) = some (some (.int .i64 n)):=by simp only [aOptV,aEnv,trOf_get,h1]
 have e4:aOptV (aEnv (trOf l)) none = some none:=rfl
 have n1:natOf (some (.int .i64 (n:Int))) 0 = some n:=natOf_n
 have n2:natOf none n = some n:=rfl
 have n3:natOf none c = some c:=rfl
 have h1:aSlice P t (.slice (some ⟨k,o,none⟩) n c) (some (.int .i64 n)) none none = none:=by
  simp only [aSlice,hu,hi,n1,n2,n3]
  rw [if_neg (by omega)]
  simp [h0]
 have h2:aSliceEnd P h t (.slice (some ⟨k,o,none⟩) n c) (some (.int .i64 n)) none none = some (.slice (some ⟨h.next,0,none⟩) 0 openB,h.bump):=by
  simp only [aSliceEnd,hu,hi,n1,n2]
  rw [if_pos ⟨hc,trivial,Nat.le_refl _⟩]
 simp only [aOp,e1,e2,e4,h1,h2]
end
end Go.Vm
namespace Go.Proofs.YtgjokhodccacoaaDoor
open Go.RowKit Go.Vm
set_option maxRecDepth 100000
abbrev eH (n:Int):List Value:=[.int .u16 n]
instance flH:FlatE eH 1:=⟨fun _=>rfl,fun _=>rfl,fun _=>rfl⟩
theorem cells_sub {wl k sz P j:Nat} {op:Bool} {M:List (Option AObj)} {bs:List Int} (h:M[k]? = some (some (.cells ⟨rows eB bs,sz,op⟩))) (hl:P + j≤bs.length):cellsAt (Hp wl M) k P j = some (rows eB ((bs.drop P).take j)):=by
 unfold cellsAt
 rw [show (Hp wl M).get k = some (.cells ⟨rows eB bs,sz,op⟩) from get_hq rfl (by rw [h]; rfl)]
 have e:((rows eB bs).drop P).take j = rows eB ((bs.drop P).take j):=by
  have h1:=rows_drop (f:=eB) (xs:=bs) (i:=P)
  have h2:=rows_take (f:=eB) (xs:=bs.drop P) (i:=j)
  rw [Nat.mul_one] at h1 h2
  rw [h1,h2]
 simp only [e]
 exact if_pos (by rw [rows_len]; omega)
structure PcS where
 i:Nat
 G:List FrT
 f:Int
 P:Nat
 kg:Nat
 cg:Nat
 k:Nat
 o:Nat
 c:Nat
 k2:Nat
 M:List (Option AObj)
structure PcI (n m:Nat) (bs:List Int) (M0:List (Option AObj)) (kb2 k20 kr:Nat) (s:PcS):Prop where
 hi:s.i≤m + 1
 hiP:s.i = m + 1→s.f = 0→s.P = n
 old : ∀ j,j < M0.length→j≠kb2→j≠k20→s.M[j]? = M0[j]?
 len:kr < s.M.length
 row:s.M[kr]? = some (opR bs)
 krn:s.k2≠kr
 cc:openB≤s.c
 kk:n - s.P≠0→s.k = kr∧s.o = s.P
 Ple:s.P≤n
 got:Rw M0.length s.M s.kg s.cg s.G.length 2 (fcs s.G)
 fd:FD M0.length s.M s.G
 k2n:s.k2 = k20∨M0.length≤s.k2
 gne:s.f = 0→∀ f∈s.G,f.1≠s.k2
 run:s.f = 0→StO 3 s.M kb2 s.k2 ((bs.take s.P).drop (fdF (bs.take s.P) 0).2.1)∧(fdF (bs.take s.P) 0).2.2 = 60∧(fdF (bs.take s.P) 0).1 = s.G.map (·.2)
 brk:s.f≠0→s.M[kb2]? = some (strB (.slice none 0 0) true)∧(fdF bs 0).2.2 = s.f∧(fdF bs 0).1 = s.G.map (·.2)∧s.f≠60
section
variable {n c m d kb1 kb2 k20 kr:Nat} {v:Value} {e:Int} {bs cuts:List Int} {M0:List (Option AObj)} {s:PcS}
theorem fdF_lenN {ws:List Int} : ∀ (n a:Nat),ws.length - a≤n→a≤ws.length→(fdF ws a).1.length≤ws.length - a:=by
 intro n
 induction n with
 | zero =>
  intro a h1 h2
  rw [fdF,dif_neg (by omega)]
  exact Nat.zero_le _
 | succ n ih =>
  intro a h1 h2
  by_cases h:(getR ws a).2.2.2 = 0∧a < (getR ws a).2.2.1.toNat∧(getR ws a).2.2.1.toNat≤ws.length
  ·rw [fdF,dif_pos h]
   have:=ih _ (by omega) h.2.2
   show (fdF ws _).1.length + 1≤_
   omega
  ·rw [fdF,dif_neg h]
   exact Nat.zero_le _
theorem fdF_len {ws:List Int} {a:Nat} (h:a≤ws.length):(fdF ws a).1.length≤ws.length - a:=fdF_lenN _ a (Nat.le_refl _) h
theorem pc_sz {b:Nat} {M:List (Option AObj)} {kg cg ng:Nat} {cs:List Value} (got:Rw b M kg cg ng 2 cs) (q:Nat) (xs:List Int) (h:M[q]? = some (opR xs)):q≠kg:=fun e=>by
 obtain ⟨_,_,opg,hgg,_⟩:=got
 subst e
 rw [hgg] at h
 injection h with h
 injection h with h
 injection h with h
 injection h with _ h _
 cases h
end
end Go.Proofs.YtgjokhodccacoaaDoor
