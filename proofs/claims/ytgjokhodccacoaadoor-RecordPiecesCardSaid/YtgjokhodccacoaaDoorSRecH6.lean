import Derived.Test.YtgjokhodccacoaaDoorSRecH2
import Derived.Test.YtgjokhodccacoaaDoorSRecH4
set_option linter.unusedSimpArgs false
set_option linter.unusedVariables false
namespace Go.Proofs.YtgjokhodccacoaaDoor
open Go.RowKit Go.Vm
set_option maxRecDepth 100000
theorem nth_app {xs ys:List Int} {i:Nat} (h:i < xs.length):nth (xs++ys) i = nth xs i:=by
 unfold nth
 rw [List.getD_eq_getElem?_getD,List.getD_eq_getElem?_getD,List.getElem?_append_left h]
theorem sub_app {xs ys:List Int} {a m:Nat} (h:a + m≤xs.length):sub (xs++ys) a m = sub xs a m:=by
 unfold sub
 rw [List.drop_append_of_le_length (by omega),List.take_append_of_le_length (by rw [List.length_drop]; omega)]
theorem numG_app {xs ys:List Int} {most:Int} {at_:Nat} : ∀ k i,(∀ nx,numG xs most at_ k i≠.err 60 nx)→numG (xs++ys) most at_ k i = numG xs most at_ k i
 | 0,i,_=>rfl
 | k + 1,i,h=>by
  by_cases h1:xs.length≤at_ + i
  ·exact absurd (by rw [numG,if_pos h1]) (h (at_ + i))
  ·have h1' : ¬ (xs++ys).length≤at_ + i:=by rw [List.length_append]; omega
   have e1:nth (xs++ys) (at_ + i) = nth xs (at_ + i):=nth_app (by omega)
   have e0:nth (xs++ys) at_ = nth xs at_:=nth_app (by omega)
   have hn:nG (xs++ys) at_ (i + 1) = nG xs at_ (i + 1):=nG_congr _ fun j hj=>nth_app (by omega)
   have ih:=numG_app (xs:=xs) (ys:=ys) (most:=most) (at_:=at_) k (i + 1)
   rw [numG] at h
   rw [numG,numG,hn,e0,e1]
   simp only [if_neg h1] at h
   simp only [if_neg h1,if_neg h1']
   by_cases h2:i = 0∧nth xs at_ = 128
   ·simp only [if_pos h2]
   ·simp only [if_neg h2] at h ⊢
    by_cases h3:nth xs (at_ + i) < 128
    ·simp only [if_pos h3]
    ·simp only [if_neg h3] at h ⊢
     exact ih h
theorem frF_app {xs ys:List Int} {at_:Nat} (h : ∀ nx,frF xs at_≠.err 60 nx):frF (xs++ys) at_ = frF xs at_:=by
 unfold frF at h ⊢
 by_cases h1:xs.length≤at_
 ·exact absurd (by rw [if_pos h1]) (h at_)
 ·have h1' : ¬ (xs++ys).length≤at_:=by rw [List.length_append]; omega
  have e0:nth (xs++ys) at_ = nth xs at_:=nth_app (by omega)
  simp only [if_neg h1] at h
  simp only [if_neg h1,if_neg h1',e0]
  by_cases h2:nth xs at_ < 1∨250 < nth xs at_
  ·simp only [if_pos h2]
  ·simp only [if_neg h2] at h ⊢
   have hg : ∀ nx,numG xs 1000000000000000 (at_ + 1) 9 0≠.err 60 nx:=fun nx e=>h nx (by rw [e])
   rw [numG_app 9 0 hg]
   cases hr:numG xs 1000000000000000 (at_ + 1) 9 0 with
   | err e nx=>rfl
   | ok v nx =>
    rw [hr] at h
    have hv:=numG_bd (xs:=xs) (at_:=at_ + 1) 9 0 (by omega) hr
    simp only at h ⊢
    by_cases h3:10000 < v
    ·simp only [if_pos h3]
    ·simp only [if_neg h3] at h ⊢
     by_cases h4:(xs.length:Int) < nx + v + 2
     ·simp only [if_pos h4] at h
      exact absurd rfl (h nx)
     ·have h4' : ¬ ((xs++ys).length:Int) < nx + v + 2:=by rw [List.length_append]; omega
      have e1:sub (xs++ys) at_ (nx + v.toNat - at_) = sub xs at_ (nx + v.toNat - at_):=sub_app (by omega)
      have e2:nth (xs++ys) (nx + v.toNat) = nth xs (nx + v.toNat):=nth_app (by omega)
      have e3:nth (xs++ys) (nx + v.toNat + 1) = nth xs (nx + v.toNat + 1):=nth_app (by omega)
      simp only [if_neg h4,if_neg h4',e1,e2,e3]
theorem getR_frF {xs : List Int} {at_ : Nat} (hl : xs.length ≤ 30000) (hk : at_ ≤ xs.length) : getR xs at_ = match frF xs at_ with
    | .ok kd a m nx=>(kd,sub xs a m,(nx:Int),0)
    | .err e _=>(0,[],0,e):=by
 unfold getR
 rw [if_neg (by omega),if_neg (by omega),Int.toNat_natCast]
 cases frF xs at_ <;> rfl
theorem frF_in {xs:List Int} {at_:Nat} {kd:Int} {a m nx:Nat} (h:frF xs at_ = .ok kd a m nx):a + m + 2 = nx∧nx≤xs.length:=by
 unfold frF at h
 split at h
 ·cases h
 split at h
 ·cases h
 split at h
 ·cases h
 ·rename_i v nx' hr
  have hv:=numG_bd (xs:=xs) (at_:=at_ + 1) 9 0 (by omega) hr
  split at h
  ·cases h
  split at h
  ·cases h
  split at h
  ·cases h
  ·injection h with h1 h2 h3 h4
   omega
theorem getR_app {xs ys:List Int} {at_:Nat} (hl:(xs++ys).length≤30000) (hk:at_≤xs.length) (h:(getR xs at_).2.2.2≠60):getR (xs++ys) at_ = getR xs at_:=by
 rw [List.length_append] at hl
 rw [getR_frF (by omega) hk] at h ⊢
 rw [getR_frF (by rw [List.length_append]; omega) (by rw [List.length_append]; omega)]
 rw [frF_app (fun nx e=>by rw [e] at h; exact h rfl)]
 cases hr:frF xs at_ with
 | err e nx=>rfl
 | ok kd a m nx =>
  have:=frF_in hr
  simp only
  rw [sub_app (by omega)]
theorem getR_drop {xs:List Int} {a p:Nat} (hl:xs.length≤30000) (ha:a + p≤xs.length):(getR xs ((a + p:Nat):Int)).1 = (getR (xs.drop a) p).1∧(getR xs ((a + p:Nat):Int)).2.1 = (getR (xs.drop a) p).2.1∧(getR xs ((a + p:Nat):Int)).2.2.2 = (getR (xs.drop a) p).2.2.2∧((getR (xs.drop a) p).2.2.2 = 0→(getR xs ((a + p:Nat):Int)).2.2.1 = a + (getR (xs.drop a) p).2.2.1):=by
 have hd:(xs.drop a).length = xs.length - a:=List.length_drop
 rw [getR_frF hl ha,getR_frF (by omega) (by omega),frF_drop ha,frF_drop (xs:=xs.drop a) (a:=p) (by omega),List.drop_drop]
 cases hr:frF (xs.drop (a + p)) 0 with
 | err e nx=>exact ⟨rfl,rfl,rfl,fun h=>absurd h (frF_e hr)⟩
 | ok kd q m nx =>
  refine ⟨rfl,?_,rfl,fun _=>?_⟩
  ·show sub xs (a + p + q) m = sub (xs.drop a) (p + q) m
   rw [Nat.add_assoc]
   exact sub_drop
  ·show ((a + p + nx:Nat):Int) = a + ((p + nx:Nat):Int)
   omega
theorem fdF_drop {xs:List Int} {a:Nat} (hl:xs.length≤30000) : ∀ (n p:Nat),xs.length - (a + p)≤n→a + p≤xs.length→fdF xs (a + p) = ((fdF (xs.drop a) p).1,a + (fdF (xs.drop a) p).2.1,(fdF (xs.drop a) p).2.2):=by
 intro n
 induction n with
 | zero =>
  intro p h1 h2
  obtain ⟨g1,g2,g3,g4⟩:=getR_drop hl h2
  have hd:(xs.drop a).length = xs.length - a:=List.length_drop
  have he:(getR (xs.drop a) p).2.2.2≠0:=fun e=>by
   obtain ⟨nx,en,b1,b2,b3⟩:=getR_ok (by omega) (by omega) e
   omega
  rw [fdF_err he,fdF_err (by rw [g3]; exact he),g3]
 | succ n ih =>
  intro p h1 h2
  obtain ⟨g1,g2,g3,g4⟩:=getR_drop hl h2
  have hd:(xs.drop a).length = xs.length - a:=List.length_drop
  by_cases he:(getR (xs.drop a) p).2.2.2 = 0
  ·obtain ⟨nx,en,b1,b2,b3⟩:=getR_ok (by omega) (by omega) he
   have e1:getR (xs.drop a) p = ((getR (xs.drop a) p).1,(getR (xs.drop a) p).2.1,(nx:Int),0):=by rw [← en,← he]
   have e2:getR xs ((a + p:Nat):Int) = ((getR (xs.drop a) p).1,(getR (xs.drop a) p).2.1,((a + nx:Nat):Int),0):=by
    rw [← g1,← g2,← he,← g3,show ((a + nx:Nat):Int) = (getR xs ((a + p:Nat):Int)).2.2.1 by rw [g4 he,en]; omega]
   rw [fdF_ok e1 (by omega) b2,fdF_ok e2 (by omega) (by omega),ih nx (by omega) (by omega)]
  ·rw [fdF_err he,fdF_err (by rw [g3]; exact he),g3]
theorem fdF_more {xs ys:List Int} (hl:(xs++ys).length≤30000) : ∀ (n p:Nat),xs.length - p≤n→p≤xs.length→fdF (xs++ys) p = if (fdF xs p).2.2 = 60 then ((fdF xs p).1++(fdF (xs++ys) (fdF xs p).2.1).1,(fdF (xs++ys) (fdF xs p).2.1).2) else fdF xs p:=by
 intro n
 have hl':=hl
 rw [List.length_append] at hl'
 induction n with
 | zero =>
  intro p h1 h2
  have he:(getR xs p).2.2.2≠0:=fun e=>by
   obtain ⟨nx,en,b1,b2,b3⟩:=getR_ok (by omega) h2 e
   omega
  rw [fdF_err he]
  by_cases h60:(getR xs p).2.2.2 = 60
  ·simp only [if_pos h60]
   rfl
  ·simp only [if_neg h60]
   have e2:=getR_app hl h2 h60
   rw [fdF_err (by rw [e2]; exact he),e2]
 | succ n ih =>
  intro p h1 h2
  by_cases he:(getR xs p).2.2.2 = 0
  ·obtain ⟨nx,en,b1,b2,b3⟩:=getR_ok (by omega) h2 he
   have e1:getR xs p = ((getR xs p).1,(getR xs p).2.1,(nx:Int),0):=by rw [← en,← he]
   have e2:getR (xs++ys) p = ((getR xs p).1,(getR xs p).2.1,(nx:Int),0):=by rw [getR_app hl h2 (by rw [he]; decide)]; exact e1
   rw [fdF_ok e1 (by omega) b2,fdF_ok e2 (by omega) (by rw [List.length_append]; omega),ih nx (by omega) b2]
   by_cases h60:(fdF xs nx).2.2 = 60
   ·simp only [if_pos h60]
    rfl
   ·simp only [if_neg h60]
  ·rw [fdF_err he]
   by_cases h60:(getR xs p).2.2.2 = 60
   ·simp only [if_pos h60]
    rfl
   ·simp only [if_neg h60]
    have e2:=getR_app hl h2 h60
    rw [fdF_err (by rw [e2]; exact he),e2]
theorem fdF_cat {xs ys:List Int} (hl:(xs++ys).length≤30000) (h60:(fdF xs 0).2.2 = 60):fdF (xs++ys) 0 = ((fdF xs 0).1++(fdF (xs.drop (fdF xs 0).2.1++ys) 0).1,(fdF xs 0).2.1 + (fdF (xs.drop (fdF xs 0).2.1++ys) 0).2.1,(fdF (xs.drop (fdF xs 0).2.1++ys) 0).2.2):=by
 obtain ⟨f1,f2,f3,f4⟩:=fdF_fin (ws:=xs) xs.length 0 (by omega) (Nat.zero_le _)
 rw [fdF_more hl _ 0 (Nat.le_refl _) (Nat.zero_le _),if_pos h60]
 have:=fdF_drop (xs:=xs++ys) (a:=(fdF xs 0).2.1) hl _ 0 (Nat.le_refl _) (by rw [List.length_append]; omega)
 rw [Nat.add_zero,List.drop_append_of_le_length f1] at this
 rw [this]
theorem fdF_stop {xs ys:List Int} (hl:(xs++ys).length≤30000) (h60:(fdF xs 0).2.2≠60):fdF (xs++ys) 0 = fdF xs 0:=by
 rw [fdF_more hl _ 0 (Nat.le_refl _) (Nat.zero_le _),if_neg h60]
theorem fdF_cons {ws:List Int} {a:Nat} {f:Int×List Int} {r:List (Int×List Int)} (hl:ws.length≤30000) (ha:a≤ws.length) (h:(fdF ws a).1 = f :: r) : ∃ nx:Nat,getR ws a = (f.1,f.2,(nx:Int),0)∧a < nx∧nx≤ws.length∧(fdF ws nx).1 = r∧(fdF ws nx).2 = (fdF ws a).2:=by
 by_cases he:(getR ws a).2.2.2 = 0
 ·obtain ⟨nx,en,b1,b2,b3⟩:=getR_ok (by omega) ha he
  have e1:getR ws a = ((getR ws a).1,(getR ws a).2.1,(nx:Int),0):=by rw [← en,← he]
  have e:=fdF_ok e1 (by omega) b2
  rw [e] at h ⊢
  injection h with h1 h2
  subst h1
  exact ⟨nx,e1,by omega,b2,h2,rfl⟩
 ·rw [fdF_err he] at h
  cases h
theorem fdF_none {ws:List Int} {a:Nat} (hl:ws.length≤30000) (ha:a≤ws.length) (h:(fdF ws a).1 = []):(fdF ws a).2.1 = a:=by
 by_cases he:(getR ws a).2.2.2 = 0
 ·obtain ⟨nx,en,b1,b2,b3⟩:=getR_ok (by omega) ha he
  have e1:getR ws a = ((getR ws a).1,(getR ws a).2.1,(nx:Int),0):=by rw [← en,← he]
  rw [fdF_ok e1 (by omega) b2] at h
  cases h
 ·rw [fdF_err he]
end Go.Proofs.YtgjokhodccacoaaDoor
set_option linter.unusedSimpArgs false
set_option linter.unusedVariables false
namespace Go.Vm
open Go Go.RowKit
section
variable {P:Program} {w:Bool} {t el:TypeId} {f:TypeInfo} {s d e k n c o:Nat} {l:Fr} {h:AH} {K:Value→AH→Prop}
theorem gen_toA {j : Nat} {y : Int} (hu : P.underlying t = some (.slice el)) (hi : P.info? el = some f) (hl : lk l s = some (.slice (some ⟨k, o, none⟩) n c)) (hc : openB ≤ c) (he : lk l e = some (.int .i64 y)) (hy : y = j) (hj : j ≤ n) (q : K (.slice (some ⟨k, o, none⟩) j c) h) :
    iStep P w (.gen (.slice t (.tmp s) none (some (.tmp e)) none)) l h K:=by
 subst hy
 refine ⟨_,_,?_,q⟩
 have e1:aEnv (trOf l) (.tmp s) = some (.slice (some ⟨k,o,none⟩) n c):=by simp only [aEnv,trOf_get,hl]
 have e2:aOptV (aEnv (trOf l)) (some (.tmp e)) = some (some (.int .i64 j)):=by simp only [aOptV,aEnv,trOf_get,he]
 have e4:aOptV (aEnv (trOf l)) none = some none:=rfl
 have n1:natOf (some (.int .i64 (j:Int))) n = some j:=natOf_n
 have n2:natOf none 0 = some 0:=rfl
 have n3:natOf none c = some c:=rfl
 have hv:aSlice P t (.slice (some ⟨k,o,none⟩) n c) none (some (.int .i64 j)) none = some (.slice (some ⟨k,o,none⟩) j c):=by
  simp only [aSlice,hu,hi,n1,n2,n3]
  rw [if_neg (by omega),if_neg (by simp),if_pos ⟨by omega,hj,by simp⟩]
  simp [Addr.add]
 simp only [aOp,e1,e2,e4,hv]
theorem gen_fromA {i : Nat} {x : Int} (hu : P.underlying t = some (.slice el)) (hi : P.info? el = some f) (hsz : f.size = 1) (hl : lk l s = some (.slice (some ⟨k, o, none⟩) n c)) (hc : openB ≤ c) (h1 : lk l d = some (.int .i64 x)) (hx : x = i) (hn : i < n ∨ (i = 0 ∧ n = 0)) (q : K (.slice (some ⟨k, o + i, none⟩) (n - i) (c + i)) h) :
    iStep P w (.gen (.slice t (.tmp s) (some (.tmp d)) none none)) l h K:=by
 subst hx
 refine ⟨_,_,?_,q⟩
 have e1:aEnv (trOf l) (.tmp s) = some (.slice (some ⟨k,o,none⟩) n c):=by simp only [aEnv,trOf_get,hl]
 have e2:aOptV (aEnv (trOf l)) (some (.tmp d)) = some (some (.int .i64 i)):=by simp only [aOptV,aEnv,trOf_get,h1]
 have e4:aOptV (aEnv (trOf l)) none = some none:=rfl
 have n1:natOf (some (.int .i64 (i:Int))) 0 = some i:=natOf_n
 have n2:natOf none n = some n:=rfl
 have n3:natOf none c = some c:=rfl
 have hv:aSlice P t (.slice (some ⟨k,o,none⟩) n c) (some (.int .i64 i)) none none = some (.slice (some ⟨k,o + i,none⟩) (n - i) (c + i)):=by
  simp only [aSlice,hu,hi,n1,n2,n3,hsz]
  rw [if_neg (by omega),if_neg (by simp),if_pos ⟨by omega,Nat.le_refl _,by omega⟩]
  simp only [Addr.add,Nat.mul_one]
  split
  ·rename_i hz; rw [hz]; rfl
  ·rfl
 simp only [aOp,e1,e2,e4,hv]
theorem gen_endA {x : Int} (hu : P.underlying t = some (.slice el)) (hi : P.info? el = some f) (hl : lk l s = some (.slice (some ⟨k, o, none⟩) n c)) (hc : openB ≤ c) (h1 : lk l d = some (.int .i64 x)) (hx : x = n) (h0 : n ≠ 0) (q : K (.slice (some ⟨h.next, 0, none⟩) 0 openB) h.bump) :
    iStep P w (.gen (.slice t (.tmp s) (some (.tmp d)) none none)) l h K:=by
 subst hx
 refine ⟨_,_,?_,q⟩
 have e1:aEnv (trOf l) (.tmp s) = some (.slice (some ⟨k,o,none⟩) n c):=by simp only [aEnv,trOf_get,hl]
 have e2:aOptV (aEnv (trOf l)) (some (.tmp d)) = some (some (.int .i64 n)):=by simp only [aOptV,aEnv,trOf_get,h1]
 have e4:aOptV (aEnv (trOf l)) none = some none:=rfl
 have n1:natOf (some (.int .i64 (n:Int))) 0 = some n:=natOf_n
 have n2:natOf none n = some n:=rfl
 have n3:natOf none c = some c:=rfl
 have h1:aSlice P t (.slice (some ⟨k,o,none⟩) n c) (some (.int .i64 n)) none none = none:=by
  simp only [aSlice,hu,hi,n1,n2,n3]
  rw [if_neg (by omega)]
  simp [h0]
 have h2:aSliceEnd P h t (.slice (some ⟨k,o,none⟩) n c) (some (.int .i64 n)) none none = some (.slice (some ⟨h.next,0,none⟩) 0 openB,h.bump):=by
  simp only [aSliceEnd,hu,hi,n1,n2]
  rw [if_pos ⟨hc,trivial,Nat.le_refl _⟩]
 simp only [aOp,e1,e2,e4,h1,h2]
end
theorem Rw.dapp {P : Program} {b wl : Nat} {M : List (Option AObj)} {k c n sz ne bytes k2 o2 c2 nx m cm : Nat} {cs new : List Value} {l : Fr} {x y : X} (h : Rw b M k c n sz cs) (hb : wl ≤ b) (hsz : Nat.beq sz 1 = false) (hcm : Nat.beq cm 0 = false) (hx : x.ev l = some (.slice (some ⟨k, 0, none⟩) n c)) (hy : y.ev l = some (.slice (some ⟨k2, o2, none⟩) ne c2)) (hs : cellsAt (Hp wl M) k2 o2 (ne * sz) = some new) (hne : ne ≠ 0) (hnl : new.length = ne * sz) (hbd : (2 * (n + ne) + 1024) * bytes ≤ 281474976710656) (h1 : new.all Value.oneCell' = true) (hbM : b ≤ M.length) :
    ∃ M',M'.length = M.length + 1∧(∀ j,j≠k→j < M.length→M'[j]? = M[j]?)∧Rw b M' M.length openB (n + ne) sz (cs++new)∧∀ KD:Value→AH→List (Nat×Nat×Nat)→Prop,KD (.slice (some ⟨M.length,0,none⟩) (n + ne) openB) (Hp wl M') [(nx,M.length,M.length + 1)]→dStep P nx m cm false (.app sz bytes x y) l (Hp wl M) [] KD:=by
 obtain ⟨h2,h3,op,h4,h5⟩:=h
 have hk:=get_lt h4
 have hlen:(cs++new).length = (n + ne) * sz:=by rw [List.length_append,h3,hnl,Nat.add_mul]
 have hw : ∀ q,wOKm q [] = true:=fun _=>rfl
 have han:addNews nx M.length (M.length + 1) [] = [(nx,M.length,M.length + 1)]:=if_pos (Nat.lt_succ_self _)
 rcases h5 with ⟨rfl,rfl⟩|⟨rfl,rfl⟩
 ·refine ⟨(M++[some (AObj.cells ⟨cs++new,sz,true⟩)]).set k none,by rw [List.length_set,List.length_append]; rfl,fun j hj hl=>by rw [List.getElem?_set_ne (by omega),List.getElem?_append_left hl],⟨hbM,hlen,true,?_,.inl ⟨rfl,rfl⟩⟩,fun KD q=>?_⟩
  ·rw [List.getElem?_set_ne (by omega),List.getElem?_append_right (Nat.le_refl _),Nat.sub_self]
   rfl
  ·rw [dStep_ak hcm hx hy hne rfl (by rw [h4]; rfl) h3 (by rw [hsz]; rfl)]
   refine ⟨rfl,rfl,?_⟩
   rw [iStep_app,hx,hy]
   simp only
   rw [appK_o rfl (by rw [h4]; rfl) h3 hne,show cellsAt (Hq wl ([]++hidL m []) M) k2 o2 (ne * sz) = some new from hs]
   show chk _ _
   unfold chk
   refine ⟨⟨by omega,hbd⟩,h1,?_,?_⟩
   ·show ((M++[_]).set k none).length = _
    rw [List.length_set,List.length_append]
    rfl
   ·rw [show (Hq wl ([]++hidL m []) ((M++[some (AObj.cells ⟨cs++new,sz,true⟩)]).set k none)).next = M.length + 1 by show ((M++[_]).set k none).length = _; rw [List.length_set,List.length_append]; rfl,han]
    exact q
 ·have e0:cs = []:=List.eq_nil_of_length_eq_zero (by rw [h3,Nat.zero_mul])
  subst e0
  rw [Nat.zero_add] at hbd hlen
  rw [Nat.zero_add]
  refine ⟨M++[some (.cells ⟨new,sz,true⟩)],by rw [List.length_append]; rfl,fun j hj hl=>by rw [List.getElem?_append_left hl],⟨hbM,hlen,true,?_,.inl ⟨rfl,rfl⟩⟩,fun KD q=>?_⟩
  ·rw [List.getElem?_append_right (Nat.le_refl _),Nat.sub_self]
   rfl
  ·rw [dStep_k hcm rfl (by
     simp only [killN,hx,hy]
     rw [if_neg (fun h=>absurd h.1 (by unfold openB; omega))])]
   refine ⟨rfl,?_⟩
   rw [iStep_app,hx,hy,Hq_view]
   simp only
   rw [appK_e (by unfold sCells; exact if_pos rfl) hne,show cellsAt (Hq M.length ([]++hidL m []) M) k2 o2 (ne * sz) = some new from hs]
   show chk _ _
   unfold chk
   refine ⟨hbd,?_⟩
   rw [show (Hq M.length ([]++hidL m []) (M++[some (AObj.cells ⟨new,sz,true⟩)])).next = M.length + 1 by show (M++[_]).length = _; rw [List.length_append]; rfl,show (Hq wl [] M).next = M.length from rfl,han]
   exact q
theorem Rw.dapp0 {P:Program} {b wl:Nat} {M:List (Option AObj)} {k c n sz bytes c2 nx m cm:Nat} {cs:List Value} {l:Fr} {x y:X} {a2:Option Addr} {KD:Value→AH→List (Nat×Nat×Nat)→Prop} (h:Rw b M k c n sz cs) (hcm:Nat.beq cm 0 = false) (hx:x.ev l = some (.slice (some ⟨k,0,none⟩) n c)) (hy:y.ev l = some (.slice a2 0 c2)) (q:KD (.slice (some ⟨k,0,none⟩) n c) (Hp wl M) []):dStep P nx m cm false (.app sz bytes x y) l (Hp wl M) [] KD:=by
 obtain ⟨h2,h3,op,h4,h5⟩:=h
 rw [dStep_az hcm hy]
 refine ⟨rfl,?_⟩
 rw [iStep_app,hx,hy,Hq_view]
 simp only
 have han:addNews nx M.length M.length [] = []:=if_neg (Nat.lt_irrefl _)
 have hq:KD (.slice (some ⟨k,0,none⟩) n c) (back (Hq wl [] M) (Hq M.length ([]++hidL m []) M)) (addNews nx (Hq wl [] M).next (Hq M.length ([]++hidL m []) M).next []):=by
  rw [show (Hq wl [] M).next = M.length from rfl,show (Hq M.length ([]++hidL m []) M).next = M.length from rfl,han]
  exact q
 rcases h5 with ⟨rfl,rfl⟩|⟨rfl,rfl⟩
 ·rw [appK_zo']
  exact hq
 ·rw [appK_0']
  exact hq
theorem Rw.dappV {P : Program} {b b2 wl : Nat} {M : List (Option AObj)} {k c n sz ne bytes nx m cm : Nat} {cs new : List Value} {lv : Value} {l : Fr} {x y : X} (h : Rw b M k c n sz cs) (hb : wl ≤ b) (hsz : Nat.beq sz 1 = false) (hcm : Nat.beq cm 0 = false) (hx : x.ev l = some (.slice (some ⟨k, 0, none⟩) n c)) (hy : y.ev l = some lv) (R : RwV b2 M lv ne sz new) (hbd : (2 * (n + ne) + 1024) * bytes ≤ 281474976710656) (h1 : new.all Value.oneCell' = true) (hbM : b ≤ M.length) :
    ∃ M' k' c' nw,M.length≤M'.length∧(∀ j,j < M.length→j≠k→M'[j]? = M[j]?)∧Rw b M' k' c' (n + ne) sz (cs++new)∧(∀ m',wOKm m' nw = true)∧∀ KD:Value→AH→List (Nat×Nat×Nat)→Prop,KD (.slice (some ⟨k',0,none⟩) (n + ne) c') (Hp wl M') nw→dStep P nx m cm false (.app sz bytes x y) l (Hp wl M) [] KD:=by
 rcases R with ⟨rfl,rfl,rfl⟩|⟨k2,c2,rfl,R⟩
 ·exact ⟨M,k,c,[],Nat.le_refl _,fun _ _ _=>rfl,by rw [List.append_nil]; exact h,fun _=>rfl,fun KD q=>h.dapp0 hcm hx hy q⟩
 ·obtain ⟨g2,g3,op,g4,g5⟩:=R
  by_cases hne:ne = 0
  ·subst hne
   have e0:new = []:=List.eq_nil_of_length_eq_zero (by rw [g3,Nat.zero_mul])
   subst e0
   exact ⟨M,k,c,[],Nat.le_refl _,fun _ _ _=>rfl,by rw [List.append_nil]; exact h,fun _=>rfl,fun KD q=>h.dapp0 hcm hx hy q⟩
  ·obtain ⟨M',l',o',r',q'⟩:=h.dapp (P:=P) (nx:=nx) (m:=m) hb hsz hcm hx hy (cells_all g4 g3) hne g3 hbd h1 hbM
   exact ⟨M',M.length,openB,_,by omega,fun j h1 h2=>o' j h2 h1,r',fun m'=>by simp [wOKm],q'⟩
end Go.Vm
namespace Go.Proofs.YtgjokhodccacoaaDoor
open Go.RowKit Go.Vm
set_option maxRecDepth 100000
abbrev eH (n:Int):List Value:=[.int .u16 n]
instance flH:FlatE eH 1:=⟨fun _=>rfl,fun _=>rfl,fun _=>rfl⟩
abbrev srH (xs:List Int):Option AObj:=some (.cells ⟨rows eH xs,0,false⟩)
theorem cells_sub {wl k sz P j:Nat} {op:Bool} {M:List (Option AObj)} {bs:List Int} (h:M[k]? = some (some (.cells ⟨rows eB bs,sz,op⟩))) (hl:P + j≤bs.length):cellsAt (Hp wl M) k P j = some (rows eB ((bs.drop P).take j)):=by
 unfold cellsAt
 rw [show (Hp wl M).get k = some (.cells ⟨rows eB bs,sz,op⟩) from get_hq rfl (by rw [h]; rfl)]
 have e:((rows eB bs).drop P).take j = rows eB ((bs.drop P).take j):=by
  have h1:=rows_drop (f:=eB) (xs:=bs) (i:=P)
  have h2:=rows_take (f:=eB) (xs:=bs.drop P) (i:=j)
  rw [Nat.mul_one] at h1 h2
  rw [h1,h2]
 simp only [e]
 exact if_pos (by rw [rows_len]; omega)
structure PcS where
 i:Nat
 G:List FrT
 f:Int
 P:Nat
 kg:Nat
 cg:Nat
 k:Nat
 o:Nat
 c:Nat
 k2:Nat
 M:List (Option AObj)
structure PcI (n m:Nat) (bs:List Int) (M0:List (Option AObj)) (kb2 k20 kr:Nat) (s:PcS):Prop where
 hi:s.i≤m + 1
 hiP:s.i = m + 1→s.f = 0→s.P = n
 old : ∀ j,j < M0.length→j≠kb2→j≠k20→s.M[j]? = M0[j]?
 len:kr < s.M.length
 row:s.M[kr]? = some (opR bs)
 krn:s.k2≠kr
 cc:openB≤s.c
 kk:n - s.P≠0→s.k = kr∧s.o = s.P
 Ple:s.P≤n
 got:Rw M0.length s.M s.kg s.cg s.G.length 2 (fcs s.G)
 fd:FD M0.length s.M s.G
 k2n:s.k2 = k20∨M0.length≤s.k2
 gne:s.f = 0→∀ f∈s.G,f.1≠s.k2
 run:s.f = 0→StO 3 s.M kb2 s.k2 ((bs.take s.P).drop (fdF (bs.take s.P) 0).2.1)∧(fdF (bs.take s.P) 0).2.2 = 60∧(fdF (bs.take s.P) 0).1 = s.G.map (·.2)
 brk:s.f≠0→s.M[kb2]? = some (strB (.slice none 0 0) true)∧(fdF bs 0).2.2 = s.f∧(fdF bs 0).1 = s.G.map (·.2)∧s.f≠60
abbrev frPc (n c m d kb1 kb2:Nat) (v:Value) (e:Int) (s:PcS):Fr:=[(0,.slice (some ⟨1,0,none⟩) n c),(1,.slice (some ⟨2,0,none⟩) m d),(5,pt kb1),(6,pt kb2),(7,v),(8,.int .i64 e),(9,.slice (some ⟨s.kg,0,none⟩) s.G.length s.cg),(10,.int .i64 s.f),(11,.slice (some ⟨s.k,s.o,none⟩) (n - s.P) s.c),(12,.int .i64 s.i)]
def ir12_r0:IC:=.reg [⟨some 4,none,false,.mv (.k (.bool false))⟩] (some [0,1])
def ir12_r1:IC:=.reg [⟨some 23,none,false,.mv (.t 0)⟩,
 ⟨some 24,none,false,.len (.t 23)⟩,
 ⟨some 25,none,false,.cmp .gtr (.t 24) (.k (.int .i64 2000))⟩,
 ⟨some 26,none,false,.mv (.t 25)⟩,
 ⟨some 27,some (26,false),false,.mv (.t 1)⟩,
 ⟨some 28,some (26,false),false,.len (.t 27)⟩,
 ⟨some 29,some (26,false),false,.cmp .gtr (.t 28) (.k (.int .i64 40))⟩,
 ⟨some 30,none,false,.pick (.t 26) (.k (.bool true)) (.t 29)⟩] (some [0,1,30])
def ir12_r2:IC:=.reg [⟨some 31,none,false,.call (.f 19) []⟩,
 ⟨some 4,none,false,.mv (.t 31)⟩] (some [4])
def ir12_1:IC:=.seq ir12_r2 .ret
def ir12_2:IC:=.cond (.t 30) ir12_1 .skip
def ir12_3:IC:=.seq ir12_r1 ir12_2
def ir12_r3:IC:=.reg [⟨some 32,none,false,.call (.f 41) []⟩,
 ⟨some 33,none,false,.call (.f 41) []⟩,
 ⟨some 5,none,false,.mv (.t 32)⟩,
 ⟨some 6,none,false,.mv (.t 33)⟩] (some [0,1,5,6])
def ir12_r4:IC:=.reg [⟨some 34,none,false,.mv (.t 5)⟩,
 ⟨some 35,none,false,.gen (.binOp .eql 63 (.tmp 34) (.const (.pointer none)) 63)⟩,
 ⟨some 36,none,false,.mv (.t 35)⟩,
 ⟨some 37,some (36,false),false,.mv (.t 6)⟩,
 ⟨some 38,some (36,false),false,.gen (.binOp .eql 63 (.tmp 37) (.const (.pointer none)) 63)⟩,
 ⟨some 39,none,false,.pick (.t 36) (.k (.bool true)) (.t 38)⟩] (some [0,1,5,6,39])
def ir12_r5:IC:=.reg [⟨some 4,none,false,.mv (.k (.bool false))⟩] (some [4])
def ir12_4:IC:=.seq ir12_r5 .ret
def ir12_5:IC:=.cond (.t 39) ir12_4 .skip
def ir12_6:IC:=.seq ir12_r4 ir12_5
def ir12_r6:IC:=.reg [⟨some 41,none,false,.mv (.t 5)⟩,
 ⟨some 42,none,false,.mv (.t 0)⟩,
 ⟨some 43,none,false,.call (.f 20) [(.t 42)]⟩,
 ⟨some 44,none,false,.call (.f 42) [(.t 41),(.t 43)]⟩,
 ⟨some 40,none,false,.mv (.t 44)⟩,
 ⟨some 45,none,false,.ext (.t 40) 0⟩,
 ⟨some 46,none,false,.ext (.t 40) 1⟩,
 ⟨some 7,none,false,.mv (.t 45)⟩,
 ⟨some 8,none,false,.mv (.t 46)⟩] (some [0,1,5,6,7,8])
def ir12_r7:IC:=.reg [⟨some 47,none,false,.bsl 2 0 [] []⟩,
 ⟨some 48,none,false,.mv (.t 0)⟩,
 ⟨some 49,none,false,.call (.f 20) [(.t 48)]⟩,
 ⟨some 9,none,false,.mv (.t 47)⟩,
 ⟨some 10,none,false,.mv (.k (.int .i64 0))⟩,
 ⟨some 11,none,false,.mv (.t 49)⟩] (some [0,1,5,6,7,8,9,10,11])
def ir12_r8:IC:=.reg [⟨some 12,none,false,.mv (.k (.int .i64 0))⟩] (some [0,1,5,6,7,8,9,10,11,12])
def ir12_r9:IC:=.reg [⟨some 50,none,false,.mv (.t 12)⟩,
 ⟨some 51,none,false,.mv (.t 1)⟩,
 ⟨some 52,none,false,.len (.t 51)⟩,
 ⟨some 53,none,false,.cmp .leq (.t 50) (.t 52)⟩,
 ⟨some 54,none,false,.mv (.t 53)⟩,
 ⟨some 55,some (54,true),false,.mv (.t 10)⟩,
 ⟨some 56,some (54,true),false,.cmp .eql (.t 55) (.k (.int .i64 0))⟩,
 ⟨some 57,none,false,.pick (.t 54) (.t 56) (.k (.bool false))⟩] (some [0,1,5,6,7,8,9,10,11,12,57])
def ir12_7:IC:=.cond (.t 57) .skip (.exit 0)
def ir12_8:IC:=.seq ir12_r9 ir12_7
def ir12_r11:IC:=.reg [⟨some 60,none,false,.mv (.t 11)⟩,
 ⟨some 61,none,false,.len (.t 60)⟩,
 ⟨some 13,none,false,.mv (.t 61)⟩] (some [0,1,5,6,7,8,9,11,12,13])
def ir12_r12:IC:=.reg [⟨some 62,none,false,.mv (.t 12)⟩,
 ⟨some 63,none,false,.mv (.t 1)⟩,
 ⟨some 64,none,false,.len (.t 63)⟩,
 ⟨some 65,none,false,.cmp .lss (.t 62) (.t 64)⟩] (some [0,1,5,6,7,8,9,11,12,13,65])
def ir12_r13:IC:=.reg [⟨some 66,none,false,.mv (.t 1)⟩,
 ⟨some 67,none,false,.mv (.t 12)⟩,
 ⟨some 68,none,false,.iad 1 (.t 66) (.t 67)⟩,
 ⟨some 69,none,false,.ldc (.t 68)⟩,
 ⟨some 70,none,false,.conv .i64 (.t 69)⟩,
 ⟨some 71,none,false,.mv (.t 11)⟩,
 ⟨some 72,none,false,.len (.t 71)⟩,
 ⟨some 73,none,false,.ar .add (.t 72) (.k (.int .i64 1))⟩,
 ⟨some 74,none,false,.div .rem (.t 70) (.t 73)⟩,
 ⟨some 13,none,false,.mv (.t 74)⟩] (some [0,1,5,6,7,8,9,11,12,13])
def ir12_9:IC:=.cond (.t 65) ir12_r13 .skip
def ir12_10:IC:=.seq ir12_r12 ir12_9
def ir12_r14:IC:=.reg [⟨some 76,none,false,.mv (.t 6)⟩,
 ⟨some 77,none,false,.mv (.t 11)⟩,
 ⟨some 78,none,false,.mv (.t 13)⟩,
 ⟨some 79,none,false,.gen (.slice 22 (.tmp 77) none (some (.tmp 78)) none)⟩,
 ⟨some 80,none,false,.call (.f 42) [(.t 76),(.t 79)]⟩,
 ⟨some 75,none,false,.mv (.t 80)⟩,
 ⟨some 81,none,false,.ext (.t 75) 0⟩,
 ⟨some 82,none,false,.ext (.t 75) 1⟩,
 ⟨some 14,none,false,.mv (.t 81)⟩,
 ⟨some 15,none,false,.mv (.t 82)⟩] (some [0,1,5,6,7,8,9,11,12,13,14,15])
def ir12_r15:IC:=.draw [(⟨some 83,none,false,.mv (.t 9)⟩,false,0,0),
 (⟨some 84,none,false,.mv (.t 14)⟩,false,0,0),
 (⟨some 85,none,false,.app 2 32 (.t 83) (.t 84)⟩,false,3,5),
 (⟨some 86,none,false,.mv (.t 15)⟩,false,0,0),
 (⟨some 87,none,false,.mv (.t 11)⟩,false,0,0),
 (⟨some 88,none,false,.mv (.t 13)⟩,false,0,0),
 (⟨some 89,none,false,.gen (.slice 22 (.tmp 87) (some (.tmp 88)) none none)⟩,false,48,8),
 (⟨some 9,none,false,.mv (.t 85)⟩,false,7,0),
 (⟨some 10,none,false,.mv (.t 86)⟩,false,143,0),
 (⟨some 11,none,false,.mv (.t 89)⟩,false,511,0)] (some [0,1,5,6,7,8,9,10,11,12])
def ir12_11:IC:=.seq ir12_r14 ir12_r15
def ir12_12:IC:=.seq ir12_10 ir12_11
def ir12_13:IC:=.seq ir12_r11 ir12_12
def ir12_14:IC:=.block 1 ir12_13
def ir12_r10:IC:=.reg [⟨some 58,none,false,.mv (.t 12)⟩,
 ⟨some 59,none,false,.ar .add (.t 58) (.k (.int .i64 1))⟩,
 ⟨some 12,none,false,.mv (.t 59)⟩] (some [0,1,5,6,7,8,9,10,11,12])
def ir12_15:IC:=.seq ir12_14 ir12_r10
def ir12_16:IC:=.seq ir12_8 ir12_15
def ir12_17:IC:=.loop ir12_16
def ir12_18:IC:=.block 0 ir12_17
def ir12_19:IC:=.seq ir12_r8 ir12_18
def ir12_r16:IC:=.reg [⟨some 90,none,false,.mv (.t 8)⟩,
 ⟨some 91,none,false,.mv (.t 10)⟩,
 ⟨some 92,none,false,.cmp .neq (.t 90) (.t 91)⟩,
 ⟨some 93,none,false,.mv (.t 92)⟩,
 ⟨some 94,some (93,false),false,.mv (.t 7)⟩,
 ⟨some 95,some (93,false),false,.mv (.t 9)⟩,
 ⟨some 96,some (93,false),false,.call (.f 44) [(.t 94),(.t 95)]⟩,
 ⟨some 97,some (93,false),false,.not (.t 96)⟩,
 ⟨some 98,none,false,.pick (.t 93) (.k (.bool true)) (.t 97)⟩,
 ⟨some 99,none,false,.mv (.t 98)⟩,
 ⟨some 100,some (99,false),false,.mv (.t 5)⟩,
 ⟨some 101,some (99,false),false,.call (.f 45) [(.t 100)]⟩,
 ⟨some 102,some (99,false),false,.mv (.t 6)⟩,
 ⟨some 103,some (99,false),false,.call (.f 45) [(.t 102)]⟩,
 ⟨some 104,some (99,false),false,.cmp .neq (.t 101) (.t 103)⟩,
 ⟨some 105,none,false,.pick (.t 99) (.k (.bool true)) (.t 104)⟩,
 ⟨some 106,none,false,.mv (.t 105)⟩,
 ⟨some 107,some (106,false),false,.mv (.t 5)⟩,
 ⟨some 108,some (106,false),false,.call (.f 45) [(.t 107)]⟩,
 ⟨some 109,some (106,false),false,.cmp .lss (.t 108) (.k (.int .i64 0))⟩,
 ⟨some 110,none,false,.pick (.t 106) (.k (.bool true)) (.t 109)⟩] (some [0,5,7,8,110])
def ir12_r17:IC:=.reg [⟨some 4,none,false,.mv (.k (.bool false))⟩] (some [4])
def ir12_20:IC:=.seq ir12_r17 .ret
def ir12_21:IC:=.cond (.t 110) ir12_20 .skip
def ir12_22:IC:=.seq ir12_r16 ir12_21
def ir12_r18:IC:=.reg [⟨some 111,none,false,.mv (.t 8)⟩,
 ⟨some 112,none,false,.cmp .neq (.t 111) (.k (.int .i64 0))⟩] (some [0,5,7,112])
def ir12_r19:IC:=.reg [⟨some 114,none,false,.mv (.t 5)⟩,
 ⟨some 115,none,false,.call (.f 42) [(.t 114),(.k (.slice none 0 0))]⟩,
 ⟨some 113,none,false,.mv (.t 115)⟩,
 ⟨some 116,none,false,.ext (.t 113) 0⟩,
 ⟨some 117,none,false,.ext (.t 113) 1⟩,
 ⟨some 16,none,false,.mv (.t 116)⟩,
 ⟨some 17,none,false,.mv (.t 117)⟩] (some [5,16,17])
def ir12_r20:IC:=.reg [⟨some 118,none,false,.mv (.t 5)⟩,
 ⟨some 119,none,false,.call (.f 45) [(.t 118)]⟩,
 ⟨some 120,none,false,.cmp .eql (.t 119) (.k (.int .i64 0))⟩,
 ⟨some 121,none,false,.mv (.t 120)⟩,
 ⟨some 122,some (121,true),false,.mv (.t 17)⟩,
 ⟨some 123,some (121,true),false,.cmp .eql (.t 122) (.k (.int .i64 9))⟩,
 ⟨some 124,none,false,.pick (.t 121) (.t 123) (.k (.bool false))⟩,
 ⟨some 125,none,false,.mv (.t 124)⟩,
 ⟨some 126,some (125,true),false,.mv (.t 16)⟩,
 ⟨some 127,some (125,true),false,.len (.t 126)⟩,
 ⟨some 128,some (125,true),false,.cmp .eql (.t 127) (.k (.int .i64 0))⟩,
 ⟨some 129,none,false,.pick (.t 125) (.t 128) (.k (.bool false))⟩,
 ⟨some 130,none,false,.mv (.t 129)⟩,
 ⟨some 131,some (130,true),false,.call (.f 19) []⟩,
 ⟨some 132,none,false,.pick (.t 130) (.t 131) (.k (.bool false))⟩,
 ⟨some 4,none,false,.mv (.t 132)⟩] (some [4])
def ir12_23:IC:=.seq ir12_r20 .ret
def ir12_24:IC:=.seq ir12_r19 ir12_23
def ir12_25:IC:=.cond (.t 112) ir12_24 .skip
def ir12_26:IC:=.seq ir12_r18 ir12_25
def ir12_r21:IC:=.reg [⟨some 18,none,false,.mv (.k (.int .i64 0))⟩,
 ⟨some 19,none,false,.mv (.k (.int .i64 0))⟩] (some [0,5,7,18,19])
def ir12_r22:IC:=.reg [⟨some 133,none,false,.mv (.t 18)⟩,
 ⟨some 134,none,false,.mv (.t 7)⟩,
 ⟨some 135,none,false,.len (.t 134)⟩,
 ⟨some 136,none,false,.cmp .lss (.t 133) (.t 135)⟩] (some [0,5,7,18,19,136])
def ir12_27:IC:=.cond (.t 136) .skip (.exit 2)
def ir12_28:IC:=.seq ir12_r22 ir12_27
def ir12_r24:IC:=.reg [⟨some 140,none,false,.mv (.t 0)⟩,
 ⟨some 141,none,false,.call (.f 20) [(.t 140)]⟩,
 ⟨some 142,none,false,.mv (.t 19)⟩,
 ⟨some 143,none,false,.call (.f 25) [(.t 141),(.t 142)]⟩,
 ⟨some 139,none,false,.mv (.t 143)⟩,
 ⟨some 144,none,false,.ext (.t 139) 0⟩,
 ⟨some 145,none,false,.ext (.t 139) 1⟩,
 ⟨some 146,none,false,.ext (.t 139) 2⟩,
 ⟨some 20,none,false,.alloc [(.int .i64 0),(.slice none 0 0)]⟩,
 ⟨none,none,false,.st 2 (.t 20) (.t 144)⟩,
 ⟨some 21,none,false,.mv (.t 145)⟩,
 ⟨some 22,none,false,.mv (.t 146)⟩] (some [0,5,7,18,20,21,22])
def ir12_r25:IC:=.draw [(⟨some 147,none,false,.mv (.t 22)⟩,false,0,0),
 (⟨some 148,none,false,.cmp .neq (.t 147) (.k (.int .i64 0))⟩,false,1,0),
 (⟨some 149,none,false,.mv (.t 148)⟩,false,3,0),
 (⟨some 150,some (149,false),false,.fad 0 (.t 20)⟩,false,7,0),
 (⟨some 151,some (149,false),false,.ldc (.t 150)⟩,false,15,1),
 (⟨some 152,some (149,false),false,.mv (.t 7)⟩,false,7,0),
 (⟨some 153,some (149,false),false,.mv (.t 18)⟩,false,7,0),
 (⟨some 154,some (149,false),false,.iad 2 (.t 152) (.t 153)⟩,false,103,0),
 (⟨some 155,some (149,false),false,.fad 0 (.t 154)⟩,false,231,0),
 (⟨some 156,some (149,false),false,.ldc (.t 155)⟩,false,487,16),
 (⟨some 157,some (149,false),false,.cmp .neq (.t 151) (.t 156)⟩,false,1023,0),
 (⟨some 158,none,false,.pick (.t 149) (.k (.bool true)) (.t 157)⟩,false,2047,0),
 (⟨some 159,none,false,.mv (.t 158)⟩,false,4095,0),
 (⟨some 160,some (159,false),false,.fad 1 (.t 20)⟩,false,8191,0),
 (⟨some 161,some (159,false),false,.ldc (.t 160)⟩,false,16383,1),
 (⟨some 162,some (159,false),false,.gen (.convert 22 9 (.tmp 161))⟩,false,32767,1),
 (⟨some 163,some (159,false),false,.mv (.t 7)⟩,false,8191,0),
 (⟨some 164,some (159,false),false,.mv (.t 18)⟩,false,8191,0),
 (⟨some 165,some (159,false),false,.iad 2 (.t 163) (.t 164)⟩,false,204799,0),
 (⟨some 166,some (159,false),false,.fad 1 (.t 165)⟩,false,466943,0),
 (⟨some 167,some (159,false),false,.ldc (.t 166)⟩,false,991231,32768),
 (⟨some 168,some (159,false),false,.gen (.convert 22 9 (.tmp 167))⟩,false,2039807,32768),
 (⟨some 169,some (159,false),false,.gen (.binOp .neq 9 (.tmp 162) (.tmp 168) 9)⟩,false,4194303,0),
 (⟨some 170,none,false,.pick (.t 159) (.k (.bool true)) (.t 169)⟩,false,8388607,0)] (some [0,5,7,18,21,170])
def ir12_r26:IC:=.reg [⟨some 4,none,false,.mv (.k (.bool false))⟩] (some [4])
def ir12_29:IC:=.seq ir12_r26 .ret
def ir12_30:IC:=.cond (.t 170) ir12_29 .skip
def ir12_31:IC:=.seq ir12_r25 ir12_30
def ir12_r27:IC:=.reg [⟨some 171,none,false,.mv (.t 21)⟩,
 ⟨some 19,none,false,.mv (.t 171)⟩] (some [0,5,7,18,19])
def ir12_r28:IC:=.reg [⟨some 172,none,false,.mv (.t 18)⟩,
 ⟨some 173,none,false,.mv (.t 7)⟩,
 ⟨some 174,none,false,.len (.t 173)⟩,
 ⟨some 175,none,false,.ar .sub (.t 174) (.k (.int .i64 1))⟩,
 ⟨some 176,none,false,.cmp .eql (.t 172) (.t 175)⟩,
 ⟨some 177,none,false,.mv (.t 176)⟩,
 ⟨some 178,some (177,true),false,.mv (.t 0)⟩,
 ⟨some 179,some (177,true),false,.len (.t 178)⟩,
 ⟨some 180,some (177,true),false,.mv (.t 19)⟩,
 ⟨some 181,some (177,true),false,.ar .sub (.t 179) (.t 180)⟩,
 ⟨some 182,some (177,true),false,.mv (.t 5)⟩,
 ⟨some 183,some (177,true),false,.call (.f 45) [(.t 182)]⟩,
 ⟨some 184,some (177,true),false,.cmp .neq (.t 181) (.t 183)⟩,
 ⟨some 185,none,false,.pick (.t 177) (.t 184) (.k (.bool false))⟩] (some [0,5,7,18,19,185])
def ir12_r29:IC:=.reg [⟨some 4,none,false,.mv (.k (.bool false))⟩] (some [4])
def ir12_32:IC:=.seq ir12_r29 .ret
def ir12_33:IC:=.cond (.t 185) ir12_32 .skip
def ir12_34:IC:=.seq ir12_r28 ir12_33
def ir12_35:IC:=.seq ir12_r27 ir12_34
def ir12_36:IC:=.seq ir12_31 ir12_35
def ir12_37:IC:=.seq ir12_r24 ir12_36
def ir12_38:IC:=.block 3 ir12_37
def ir12_r23:IC:=.reg [⟨some 137,none,false,.mv (.t 18)⟩,
 ⟨some 138,none,false,.ar .add (.t 137) (.k (.int .i64 1))⟩,
 ⟨some 18,none,false,.mv (.t 138)⟩] (some [0,5,7,18,19])
def ir12_39:IC:=.seq ir12_38 ir12_r23
def ir12_40:IC:=.seq ir12_28 ir12_39
def ir12_41:IC:=.loop ir12_40
def ir12_42:IC:=.block 2 ir12_41
def ir12_43:IC:=.seq ir12_r21 ir12_42
def ir12_r30:IC:=.reg [⟨some 186,none,false,.call (.f 19) []⟩,
 ⟨some 4,none,false,.mv (.t 186)⟩] (some [4])
def ir12_44:IC:=.seq ir12_r30 .ret
def ir12_45:IC:=.seq ir12_43 ir12_44
def ir12_46:IC:=.seq ir12_26 ir12_45
def ir12_47:IC:=.seq ir12_22 ir12_46
def ir12_48:IC:=.seq ir12_19 ir12_47
def ir12_49:IC:=.seq ir12_r7 ir12_48
def ir12_50:IC:=.seq ir12_r6 ir12_49
def ir12_51:IC:=.seq ir12_6 ir12_50
def ir12_52:IC:=.seq ir12_r3 ir12_51
def ir12_53:IC:=.seq ir12_3 ir12_52
def ir12_54:IC:=.seq ir12_r0 ir12_53
def ir12:IC:=ir12_54
theorem fn12:FnIs Tryd.prog 12 ir12 187 [.tmp 4]:=⟨Tryd.f12,Tryd.f12.body.getD .skip,Tryd.func12,by kernel_rfl,by kernel_rfl,by kernel_rfl,by kernel_rfl⟩
section
variable {n c m d kb1 kb2 k20 kr:Nat} {v:Value} {e:Int} {bs cuts:List Int} {M0:List (Option AObj)} {s:PcS}
theorem fdF_lenN {ws:List Int} : ∀ (n a:Nat),ws.length - a≤n→a≤ws.length→(fdF ws a).1.length≤ws.length - a:=by
 intro n
 induction n with
 | zero =>
  intro a h1 h2
  rw [fdF,dif_neg (by omega)]
  exact Nat.zero_le _
 | succ n ih =>
  intro a h1 h2
  by_cases h:(getR ws a).2.2.2 = 0∧a < (getR ws a).2.2.1.toNat∧(getR ws a).2.2.1.toNat≤ws.length
  ·rw [fdF,dif_pos h]
   have:=ih _ (by omega) h.2.2
   show (fdF ws _).1.length + 1≤_
   omega
  ·rw [fdF,dif_neg h]
   exact Nat.zero_le _
theorem fdF_len {ws:List Int} {a:Nat} (h:a≤ws.length):(fdF ws a).1.length≤ws.length - a:=fdF_lenN _ a (Nat.le_refl _) h
theorem pc_er {W:List Int} {er:Int} (hl:W.length≤30000) (h:er = if (fdF W 0).2.2 = 60 then 0 else (fdF W 0).2.2):er = 0↔(fdF W 0).2.2 = 60:=by
 have hW0:=(fdF_fin (ws:=W) _ 0 (Nat.le_refl _) (Nat.zero_le _)).2.2.2 hl
 rw [h]
 by_cases h:(fdF W 0).2.2 = 60
 ·rw [if_pos h]; exact ⟨fun _=>h,fun _=>rfl⟩
 ·rw [if_neg h]; exact ⟨fun e=>absurd e hW0,fun e=>absurd e h⟩
theorem pc_w {P j : Nat} (hn : bs.length = n) (hb : n ≤ 2000) (hj : j ≤ n - P) (h60 : (fdF (bs.take P) 0).2.2 = 60) :
    (bs.take P).drop (fdF (bs.take P) 0).2.1++(bs.drop P).take j = (bs.take (P + j)).drop (fdF (bs.take P) 0).2.1 ∧
    fdF (bs.take (P + j)) 0 = ((fdF (bs.take P) 0).1++(fdF ((bs.take (P + j)).drop (fdF (bs.take P) 0).2.1) 0).1,(fdF (bs.take P) 0).2.1 + (fdF ((bs.take (P + j)).drop (fdF (bs.take P) 0).2.1) 0).2.1,(fdF ((bs.take (P + j)).drop (fdF (bs.take P) 0).2.1) 0).2.2):=by
 have f1:=(fdF_fin (ws:=bs.take P) _ 0 (Nat.le_refl _) (Nat.zero_le _)).1
 have hAx:bs.take P++(bs.drop P).take j = bs.take (P + j):=by rw [List.take_add]
 have hl30:(bs.take P++(bs.drop P).take j).length≤30000:=by rw [hAx,List.length_take]; omega
 have e1:(bs.take P).drop (fdF (bs.take P) 0).2.1++(bs.drop P).take j = (bs.take (P + j)).drop (fdF (bs.take P) 0).2.1:=by rw [← hAx,List.drop_append_of_le_length f1]
 have hcat:=fdF_cat hl30 h60
 rw [hAx,e1] at hcat
 exact ⟨e1,hcat⟩
theorem pc_run {P j k' : Nat} {M' M3 : List (Option AObj)} {G fs : List FrT} {W : List Int} {A : Nat} {g0 : List (Int × List Int)} (hB : isB bs) (hkb2 : 3 ≤ kb2) (hk' : 3 ≤ k') (rfs : g0 = G.map (·.2)) (Fres : fs.map (·.2) = (fdF W 0).1) (h6 : (fdF W 0).2.2 = 60) (hW : W = (bs.take (P + j)).drop A) (hcat : fdF (bs.take (P + j)) 0 = (g0 ++ (fdF W 0).1, A + (fdF W 0).2.1, (fdF W 0).2.2))
    (c2:M'[kb2]? = some (strB (.slice (some ⟨k',0,none⟩) (W.length - (fdF W 0).2.1) openB) false)) (c3:M'[k']? = some (opR (W.drop (fdF W 0).2.1))) (e2:M3[kb2]? = M'[kb2]?) (e3:M3[k']? = M'[k']?) :
    StO 3 M3 kb2 k' ((bs.take (P + j)).drop (fdF (bs.take (P + j)) 0).2.1)∧(fdF (bs.take (P + j)) 0).2.2 = 60∧(fdF (bs.take (P + j)) 0).1 = (G++fs).map (·.2):=by
 have e1:(bs.take (P + j)).drop (fdF (bs.take (P + j)) 0).2.1 = W.drop (fdF W 0).2.1:=by
  rw [hcat,← List.drop_drop,← hW]
 rw [e1]
 refine ⟨⟨hkb2,hk',?_,?_,fun x hx=>?_⟩,?_,?_⟩
 ·rw [e2,c2,List.length_drop]
 ·rw [e3,c3]
 ·have hx2:=List.mem_of_mem_drop hx
  rw [hW] at hx2
  exact hB x (List.mem_of_mem_take (List.mem_of_mem_drop hx2))
 ·rw [hcat]; exact h6
 ·rw [hcat,List.map_append,Fres,rfs]
theorem pc_brk {P j : Nat} {G fs : List FrT} {W : List Int} {A : Nat} {er : Int} {g0 : List (Int × List Int)} (hl : bs.length ≤ 30000) (rfs : g0 = G.map (·.2)) (Fres : fs.map (·.2) = (fdF W 0).1) (h6 : (fdF W 0).2.2 ≠ 60) (Ferr : er = (fdF W 0).2.2) (hcat : fdF (bs.take (P + j)) 0 = (g0 ++ (fdF W 0).1, A + (fdF W 0).2.1, (fdF W 0).2.2)) :
    (fdF bs 0).2.2 = er∧(fdF bs 0).1 = (G++fs).map (·.2)∧er≠60:=by
 have hst:=fdF_stop (xs:=bs.take (P + j)) (ys:=bs.drop (P + j)) (by rw [List.take_append_drop]; exact hl) (by rw [hcat]; exact h6)
 rw [List.take_append_drop,hcat] at hst
 exact ⟨by rw [hst]; exact Ferr.symm,by rw [hst,List.map_append,Fres,rfs],by rw [Ferr]; exact h6⟩
theorem pc_k2 {k' k2 b z:Nat} {er:Int} (h:k2 = k20∨b≤k2) (h2:er = 0→z≤k') (hz:b≤z):(if er = 0 then k' else k2) = k20∨b≤(if er = 0 then k' else k2):=by
 by_cases he:er = 0
 ·rw [if_pos he]
  exact .inr (Nat.le_trans hz (h2 he))
 ·rw [if_neg he]; exact h
theorem pc_mm {M M' M3:List (Option AObj)} {k2 kg:Nat} (Fold : ∀ i,i < M.length→i≠kb2→i≠k2→M'[i]? = M[i]?) (Flen:M.length≤M'.length) (h3 : ∀ i,i < M'.length→i≠kg→M3[i]? = M'[i]?) : ∀ q,q < M.length→q≠kb2→q≠k2→q≠kg→M3[q]? = M[q]?:=fun q h1 h2 h3' h4=>by
 rw [h3 q (Nat.lt_of_lt_of_le h1 Flen) h4,Fold q h1 h2 h3']
theorem pc_sz {b:Nat} {M:List (Option AObj)} {kg cg ng:Nat} {cs:List Value} (got:Rw b M kg cg ng 2 cs) (q:Nat) (xs:List Int) (h:M[q]? = some (opR xs)):q≠kg:=fun e=>by
 obtain ⟨_,_,opg,hgg,_⟩:=got
 subst e
 rw [hgg] at h
 injection h with h
 injection h with h
 injection h with h
 injection h with _ h _
 cases h
theorem pc_box {b kb:Nat} {M:List (Option AObj)} {kg cg ng:Nat} {cs:List Value} (got:Rw b M kg cg ng 2 cs) (hb:kb < b):kb≠kg:=fun e=>by
 have:=got.1
 omega
theorem pc_fd {M M' M3:List (Option AObj)} {k2 kg cg b z:Nat} {G fs:List FrT} (hkb:kb2 < b) (hbz:b≤z) (hz:z = M.length) (got:Rw b M kg cg G.length 2 (fcs G)) (fd:FD b M G) (gne : ∀ f∈G,f.1≠k2) (Ffd:FD M.length M' fs) (h3 : ∀ i,i < M'.length→i≠kg→M3[i]? = M'[i]?) (mm : ∀ q,q < M.length→q≠kb2→q≠k2→q≠kg→M3[q]? = M[q]?):FD b M3 (G++fs):=by
 intro g hg
 rcases List.mem_append.1 hg with hg|hg
 ·obtain ⟨g1,g2⟩:=fd g hg
  refine ⟨g1,?_⟩
  rw [mm g.1 (get_lt g2) (by omega) (gne g hg) (pc_sz got _ _ g2)]
  exact g2
 ·obtain ⟨g1,g2⟩:=Ffd g hg
  have hk:=got.lt
  refine ⟨by omega,?_⟩
  rw [h3 g.1 (get_lt g2) (by omega)]
  exact g2
theorem pc_gne {M:List (Option AObj)} {k' b:Nat} {G fs:List FrT} (fd:FD b M G) (hk' : M.length≤k') (Ffne : ∀ f∈fs,f.1 < k') : ∀ g∈G++fs,g.1≠k':=by
 intro g hg
 rcases List.mem_append.1 hg with hg|hg
 ·have:=get_lt (fd g hg).2
  omega
 ·have:=Ffne g hg
  omega
theorem pci_next {j : Nat} {lv : Value} {er : Int} {M' M3 : List (Option AObj)} {k' kg' cg' k3 o3 c3 : Nat} {fs : List FrT} {i : Nat} {G : List FrT} {P kg cg k o cc k2 : Nat} {M : List (Option AObj)} (I : PcI n m bs M0 kb2 k20 kr ⟨i, G, 0, P, kg, cg, k, o, cc, k2, M⟩) (hn : bs.length = n) (hB : isB bs) (hb : n ≤ 2000) (hkb2 : 3 ≤ kb2) (hkr : M0.length ≤ kr) (hM0 : kb2 < M0.length ∧ 3 ≤ M0.length) (hMM : M0.length ≤ M.length) (hii : i ≤ m) (hj : j ≤ n - P) (hjm : i = m → j = n - P)
    (F:FdQ M kb2 k2 ((bs.take P).drop (fdF (bs.take P) 0).2.1++(bs.drop P).take j) lv er M' k' fs) (h3 : ∀ i,i < M'.length→i≠kg→M3[i]? = M'[i]?) (hl3:M'.length≤M3.length) (r3:Rw M0.length M3 kg' cg' (G++fs).length 2 (fcs (G++fs))) (hcc:openB≤c3) (hkk:n - (P + j)≠0→k3 = kr∧o3 = P + j) :
    PcI n m bs M0 kb2 k20 kr ⟨i + 1,G++fs,er,P + j,kg',cg',k3,o3,c3,if er = 0 then k' else k2,M3⟩:=by
 have Ple:P≤n:=I.Ple
 have got:Rw M0.length M kg cg G.length 2 (fcs G):=I.got
 obtain ⟨S,r60,rfs⟩:=I.run rfl
 obtain ⟨hW,hcat⟩:=pc_w (bs:=bs) (P:=P) hn hb hj r60
 rw [hW] at F
 have hWl:((bs.take (P + j)).drop (fdF (bs.take P) 0).2.1).length≤30000:=by rw [List.length_drop,List.length_take]; omega
 have h60:=pc_er hWl F.err
 have mm:=pc_mm F.old F.len h3
 have hkl:kr < M.length:=I.len
 have hrow:M[kr]? = some (opR bs):=I.row
 have hkg:=got.1
 have hkgl:=got.lt
 have hcut:er = 0→M.length≤k':=fun he=>(F.cut (h60.1 he)).1
 have hfl:=F.len
 have hkbg:kb2≠kg:=fun e=>by have:=hM0.1; omega
 refine ⟨Nat.succ_le_succ hii,fun h _=>?_,fun q h1 h2 h3'=>?_,Nat.lt_of_lt_of_le hkl (Nat.le_trans hfl hl3),?_,?_,hcc,hkk,?_,r3,pc_fd hM0.1 hMM rfl got I.fd (I.gne rfl) F.fd h3 mm,pc_k2 I.k2n hcut hMM,fun he=>?_,fun he=>?_,fun he=>?_⟩
 ·have:=hjm (Nat.succ.inj h)
  show P + j = n
  clear h60
  omega
 ·have ho:M[q]? = M0[q]?:=I.old q h1 h2 h3'
  rw [mm q (Nat.lt_of_lt_of_le h1 hMM) h2 (by
   have hk:k2 = k20∨M0.length≤k2:=I.k2n
   clear h60
   rcases hk with h|h
   ·rw [h]; exact h3'
   ·exact Nat.ne_of_lt (Nat.lt_of_lt_of_le h1 h)) (Nat.ne_of_lt (Nat.lt_of_lt_of_le h1 hkg))]
  exact ho
 ·show M3[kr]? = _
  rw [mm kr hkl (fun e=>by have:=hM0.1; clear h60; omega) (fun e=>I.krn e.symm) (pc_sz got kr _ hrow)]
  exact hrow
 ·show (if er = 0 then k' else k2)≠kr
  by_cases he:er = 0
  ·rw [if_pos he]
   exact Nat.ne_of_gt (Nat.lt_of_lt_of_le hkl (hcut he))
  ·rw [if_neg he]; exact I.krn
 ·show P + j≤n
  clear h60
  omega
 ·have he:er = 0:=he
  show ∀ g∈G++fs,g.1≠(if er = 0 then k' else k2)
  rw [if_pos he]
  exact pc_gne I.fd (hcut he) (F.fne (h60.1 he))
 ·have he:er = 0:=he
  have h6:=h60.1 he
  obtain ⟨c1,c2,c3⟩:=F.cut h6
  show StO 3 M3 kb2 (if er = 0 then k' else k2) ((bs.take (P + j)).drop (fdF (bs.take (P + j)) 0).2.1)∧(fdF (bs.take (P + j)) 0).2.2 = 60∧(fdF (bs.take (P + j)) 0).1 = (G++fs).map (·.2)
  rw [if_pos he]
  exact pc_run hB hkb2 (Nat.le_trans hM0.2 (Nat.le_trans hMM c1)) rfs F.res h6 rfl hcat c2 c3 (h3 kb2 (get_lt c2) hkbg) (h3 k' (get_lt c3) (Nat.ne_of_gt (Nat.lt_of_lt_of_le hkgl c1)))
 ·have he:er≠0:=he
  have h6:(fdF ((bs.take (P + j)).drop (fdF (bs.take P) 0).2.1) 0).2.2≠60:=fun h=>he (h60.2 h)
  have c2:=F.brk h6
  have Ferr:=F.err
  rw [if_neg h6] at Ferr
  obtain ⟨b1,b2,b3⟩:=pc_brk (bs:=bs) (by rw [hn]; exact Nat.le_trans hb (by decide)) rfs F.res h6 Ferr hcat
  exact ⟨(h3 kb2 (get_lt c2) hkbg).trans c2,b1,b2,b3⟩
theorem pieces_round {Q : AEx → Fr → List Nat → AH → Prop} (I : PcI n m bs M0 kb2 k20 kr s) (hn : bs.length = n) (hm : cuts.length = m) (hB : isB bs) (hC : ∀ x ∈ cuts, 0 ≤ x ∧ x ≤ 65535) (hb : n ≤ 2000) (hb2 : m ≤ 40) (h0 : M0[0]? = some none) (hcut : M0[2]? = some (srH cuts)) (hk20 : 3 ≤ k20) (hkb2 : 3 ≤ kb2) (hkr : M0.length ≤ kr) (hM0 : kb2 < M0.length ∧ k20 < M0.length) (hii : s.i ≤ m) (hf : s.f = 0)
    (q : ∀ s',PcI n m bs M0 kb2 k20 kr s'→s'.i = s.i + 1→Q .normal (frPc n c m d kb1 kb2 v e s') [] (Hp 3 s'.M)) :
    ITri Tryd.prog 187 none 3 ir12_15 (frPc n c m d kb1 kb2 v e s) [] (Hp 3 s.M) Q:=by
 obtain ⟨i,G,f,P,kg,cg,k,o,cc,k2,M⟩:=s
 simp only at hii hf q
 subst hf
 have I':=I
 obtain ⟨hi,hiP,old,len,row,krn,hcc,kk,Ple,got,fd,k2n,gne,run,brk⟩:=I'
 simp only at hi hiP old len row krn hcc kk Ple got fd k2n gne run brk
 obtain ⟨S,r60,rfs⟩ : StO 3 M kb2 k2 ((bs.take P).drop (fdF (bs.take P) 0).2.1)∧(fdF (bs.take P) 0).2.2 = 60∧(fdF (bs.take P) 0).1 = G.map (·.2):=I.run rfl
 clear hiP gne run brk
 have hcutM:M[2]? = some (srH cuts):=by rw [old 2 (by omega) (by omega) (by omega)]; exact hcut
 have nn : ∃ j:Nat,j≤n - P∧(i = m→j = n - P)∧(j:Int) = if i < m then nth cuts i % ((n - P:Nat) + 1:Int) else ((n - P:Nat):Int):=by
  by_cases him:i < m
  ·have h1:=hC _ (nth_mem (xs:=cuts) (i:=i) (by omega))
   have h2:=Int.emod_nonneg (nth cuts i) (show ((n - P:Nat) + 1:Int)≠0 by omega)
   have h3:=Int.emod_lt_of_pos (nth cuts i) (show (0:Int) < ((n - P:Nat) + 1:Int) by omega)
   refine ⟨(nth cuts i % ((n - P:Nat) + 1:Int)).toNat,by omega,by omega,?_⟩
   rw [if_pos him,Int.toNat_of_nonneg h2]
  ·refine ⟨n - P,Nat.le_refl _,fun _=>rfl,?_⟩
   rw [if_neg him]
 obtain ⟨j,hj,hjm,hjv⟩:=nn
 refine ITri.seq ?_
 refine ITri.block ?_
 refine ITri.seq ?_
 refine ITri.reg pok ?_; simp -implicitDefEqProofs (disch:=first|decide|exact of_eq_true (eq_true rfl)|omega|assumption) only [↓vcD,vcE,↓vcG,vcF,evs,evP,evB,intsOf,fillC,Value.cells,pt,Value.oneCell',reduceIte,reduceCtorEq,Nat.reduceEqDiff,Nat.reduceAdd,Nat.reduceMul,Nat.reduceLT,Nat.reduceBEq,Nat.reduceLeDiff,Nat.reduceSub]
 refine ITri.seq ?_
 refine ITri.atF (l2:=[(0,.slice (some ⟨1,0,none⟩) n c),(1,.slice (some ⟨2,0,none⟩) m d),(5,pt kb1),(6,pt kb2),(7,v),(8,.int .i64 e),(9,.slice (some ⟨kg,0,none⟩) G.length cg),(11,.slice (some ⟨k,o,none⟩) (n - P) cc),(12,.int .i64 i),(13,.int .i64 j)]) (h2:=Hp 3 M) ?_ ?_
 ·refine ITri.seq ?_
  by_cases him:i < m
  ·have him' : (i:Int) < m:=by omega
   have hg:(rows eH cuts)[i]? = some (.int .u16 (nth cuts i)):=rows_get1 (f:=eH) (by omega)
   have h1:=hC _ (nth_mem (xs:=cuts) (i:=i) (by omega))
   rw [if_pos him] at hjv
   refine ITri.reg pok ?_; simp -implicitDefEqProofs (disch:=first|decide|exact of_eq_true (eq_true rfl)|omega|assumption) only [him',decide_true, ↓vcD,vcE,↓vcG,vcF,evs,evP,evB,intsOf,fillC,Value.cells,pt,Value.oneCell',reduceIte,reduceCtorEq,Nat.reduceEqDiff,Nat.reduceAdd,Nat.reduceMul,Nat.reduceLT,Nat.reduceBEq,Nat.reduceLeDiff,Nat.reduceSub]
   refine ITri.cond (v:=true) rfl (fun _=>?_) (fun h=>by cases h)
   refine ITri.reg pok ?_; simp -implicitDefEqProofs (disch:=first|decide|exact of_eq_true (eq_true rfl)|omega|assumption) only [hcutM,hg,← hjv, ↓vcD,vcE,↓vcG,vcF,evs,evP,evB,intsOf,fillC,Value.cells,pt,Value.oneCell',reduceIte,reduceCtorEq,Nat.reduceEqDiff,Nat.reduceAdd,Nat.reduceMul,Nat.reduceLT,Nat.reduceBEq,Nat.reduceLeDiff,Nat.reduceSub]
   exact AtF.mk ⟨rfl,rfl,rfl,rfl,rfl,rfl,rfl,rfl,rfl,rfl,trivial⟩
  ·have him' : ¬ (i:Int) < m:=by omega
   rw [if_neg him] at hjv
   refine ITri.reg pok ?_; simp -implicitDefEqProofs (disch:=first|decide|exact of_eq_true (eq_true rfl)|omega|assumption) only [him',decide_false, ↓vcD,vcE,↓vcG,vcF,evs,evP,evB,intsOf,fillC,Value.cells,pt,Value.oneCell',reduceIte,reduceCtorEq,Nat.reduceEqDiff,Nat.reduceAdd,Nat.reduceMul,Nat.reduceLT,Nat.reduceBEq,Nat.reduceLeDiff,Nat.reduceSub]
   refine ITri.cond (v:=false) rfl (fun h=>by cases h) (fun _=>?_)
   refine ITri.skip ?_
   rw [← hjv]
   exact AtF.mk ⟨rfl,rfl,rfl,rfl,rfl,rfl,rfl,rfl,rfl,rfl,trivial⟩
 refine ITri.seq ?_
 refine ITri.reg pok ?_; simp -implicitDefEqProofs (disch:=first|decide|exact of_eq_true (eq_true rfl)|omega|assumption) only [↓vcD,vcE,↓vcG,vcF,evs,evP,evB,intsOf,fillC,Value.cells,pt,Value.oneCell',reduceIte,reduceCtorEq,Nat.reduceEqDiff,Nat.reduceAdd,Nat.reduceMul,Nat.reduceLT,Nat.reduceBEq,Nat.reduceLeDiff,Nat.reduceSub]
 refine gen_toA (j:=j) u_slB i_u8 rfl hcc rfl rfl hj ?_
 try simp -implicitDefEqProofs (disch:=first|decide|exact of_eq_true (eq_true rfl)|omega|assumption) only [↓vcD,vcE,↓vcG,vcF,evs,evP,evB,intsOf,fillC,Value.cells,pt,Value.oneCell',reduceIte,reduceCtorEq,Nat.reduceEqDiff,Nat.reduceAdd,Nat.reduceMul,Nat.reduceLT,Nat.reduceBEq,Nat.reduceLeDiff,Nat.reduceSub]
 have hxl:((bs.drop P).take j).length = j:=by rw [List.length_take,List.length_drop]; omega
 have hA:(bs.take P).length = P:=by rw [List.length_take]; omega
 have hWl:((bs.take P).drop (fdF (bs.take P) 0).2.1).length≤P:=by rw [List.length_drop]; omega
 have hxB:isB ((bs.drop P).take j):=fun x hx=>hB x (List.mem_of_mem_drop (List.mem_of_mem_take hx))
 obtain ⟨lv,er,M',k',fs,F,T⟩:=feed_x (sv:=.slice (some ⟨k,o,none⟩) j cc) S (by omega) hxB (by omega) (by omega) ⟨_,_,by rw [hxl]⟩ (fun h=>by
  rw [hxl] at h
  obtain ⟨rfl,rfl⟩:=kk (by omega)
  exact ⟨_,_,_,by rw [hxl],by rw [hxl,Nat.mul_one]; exact cells_sub row (by omega)⟩)
 refine ⟨_,_,T,?_⟩
 try simp -implicitDefEqProofs (disch:=first|decide|exact of_eq_true (eq_true rfl)|omega|assumption) only [↓vcD,vcE,↓vcG,vcF,evs,evP,evB,intsOf,fillC,Value.cells,pt,Value.oneCell',reduceIte,reduceCtorEq,Nat.reduceEqDiff,Nat.reduceAdd,Nat.reduceMul,Nat.reduceLT,Nat.reduceBEq,Nat.reduceLeDiff,Nat.reduceSub]
 refine ITri.draw pok ?_; simp -implicitDefEqProofs (disch:=first|decide|exact of_eq_true (eq_true rfl)|omega|assumption) only [↓vcD,vcE,↓vcG,vcF,evs,evP,evB,intsOf,fillC,Value.cells,pt,Value.oneCell',reduceIte,reduceCtorEq,Nat.reduceEqDiff,Nat.reduceAdd,Nat.reduceMul,Nat.reduceLT,Nat.reduceBEq,Nat.reduceLeDiff,Nat.reduceSub]
 have hMM:M0.length≤M.length:=by
  have:=got.1
  have:=got.lt
  omega
 have hWl2:((bs.take P).drop (fdF (bs.take P) 0).2.1++(bs.drop P).take j).length≤n:=by rw [List.length_append,hxl]; omega
 have hkg2:kg≠k2:=fun e=>pc_sz got k2 _ S.row e.symm
 have hkg3:kg≠kb2:=fun e=>pc_box got hM0.1 e.symm
 have got' : Rw M0.length M' kg cg G.length 2 (fcs G):=got.mono (F.old kg got.lt hkg3 hkg2)
 have hGl:G.length≤2000:=by
  have h1:=congrArg List.length rfs
  rw [List.length_map] at h1
  have h2:=fdF_len (ws:=bs.take P) (Nat.zero_le _)
  rw [hA] at h2
  omega
 have hfl:fs.length≤4000:=by
  have h1:=congrArg List.length F.res
  rw [List.length_map] at h1
  have h2:=fdF_len (ws:=(bs.take P).drop (fdF (bs.take P) 0).2.1++(bs.drop P).take j) (Nat.zero_le _)
  omega
 obtain ⟨M3,kg',cg',nw,l3,o3,r3,w3,q3⟩:=got'.dappV (P:=Tryd.prog) (wl:=3) (bytes:=32) (nx:=2) (m:=3) (cm:=5) (l:=[(84,lv),(83,.slice (some ⟨kg,0,none⟩) G.length cg),(0,.slice (some ⟨1,0,none⟩) n c),(1,.slice (some ⟨2,0,none⟩) m d),(5,pt kb1),(6,pt kb2),(7,v),(8,.int .i64 e),(9,.slice (some ⟨kg,0,none⟩) G.length cg),(11,.slice (some ⟨k,o,none⟩) (n - P) cc),(12,.int .i64 i),(13,.int .i64 j),(14,lv),(15,.int .i64 er)]) (x:=.t 83) (y:=.t 84) (by omega) rfl rfl rfl rfl F.rv (by omega) (fcs_all fs) (Nat.le_trans hMM F.len)
 rw [← fcs_app,← List.length_append] at r3
 refine q3 _ ⟨w3 _,?_⟩
 have hi1:(i:Int) + 1 = ((i + 1:Nat):Int):=by omega
 rw [Hq_view]
 have fin : ∀ (M4 : List (Option AObj)) (k3 o3 c3 : Nat), (∀ i, i < M'.length → i ≠ kg → M4[i]? = M'[i]?) → M'.length ≤ M4.length → Rw M0.length M4 kg' cg' (G ++ fs).length 2 (fcs (G ++ fs)) → openB ≤ c3 → (n - (P + j) ≠ 0 → k3 = kr ∧ o3 = P + j) →
     ITri Tryd.prog 187 none 3 ir12_r10 [(0,.slice (some ⟨1,0,none⟩) n c),(1,.slice (some ⟨2,0,none⟩) m d),(5,pt kb1),(6,pt kb2),(7,v),(8,.int .i64 e),(9,.slice (some ⟨kg',0,none⟩) (G.length + fs.length) cg'),(10,.int .i64 er),(11,.slice (some ⟨k3,o3,none⟩) (n - P - j) c3),(12,.int .i64 i)] [] (Hp 3 M4) Q:=by
  intro M4 k3 o3 c3 h1 h2 h3 h4 h5
  rw [Nat.sub_sub,← List.length_append]
  refine ITri.reg pok ?_; simp -implicitDefEqProofs (disch:=first|decide|exact of_eq_true (eq_true rfl)|omega|assumption) only [hi1, ↓vcD,vcE,↓vcG,vcF,evs,evP,evB,intsOf,fillC,Value.cells,pt,Value.oneCell',reduceIte,reduceCtorEq,Nat.reduceEqDiff,Nat.reduceAdd,Nat.reduceMul,Nat.reduceLT,Nat.reduceBEq,Nat.reduceLeDiff,Nat.reduceSub]
  exact q _ (pci_next I hn hB hb hkb2 hkr ⟨hM0.1,by omega⟩ hMM hii hj hjm F h1 h2 h3 h4 h5) rfl
 by_cases hend:j < n - P∨(j = 0∧n - P = 0)
 ·refine gen_fromA (i:=j) u_slB i_u8 rfl rfl hcc rfl rfl hend ?_
  exact fin M3 _ _ _ (fun i h1 h2=>o3 i h1 h2) l3 r3 (by omega) (fun h=>by
   obtain ⟨rfl,rfl⟩:=kk (by omega)
   exact ⟨rfl,rfl⟩)
 ·have hjn:j = n - P:=by omega
  refine gen_endA u_slB i_u8 rfl hcc rfl (by rw [hjn]) (by omega) ?_
  rw [Hq_bump]
  have hz:n - P - j = 0:=by omega
  have:=fin (M3++[none]) M3.length 0 openB (fun i h1 h2=>by rw [List.getElem?_append_left (by omega)]; exact o3 i h1 h2) (by rw [List.length_append]; omega) (r3.mono (List.getElem?_append_left r3.lt)) (Nat.le_refl _) (fun h=>absurd (by omega) h)
  rw [hz] at this
  exact this
end
end Go.Proofs.YtgjokhodccacoaaDoor
