import Derived.Test.YtgjokhodccacoaaDoorSRecY2
import Derived.Test.YtgjokhodccacoaaDoorSRecS3
import Derived.Test.YtgjokhodccacoaaDoorSRecN3
set_option linter.unusedSimpArgs false
set_option linter.unusedVariables false
namespace Go.Proofs.YtgjokhodccacoaaDoor
open Go.RowKit Go.Vm
set_option maxRecDepth 100000
theorem nth_drop' {xs:List Int} {o j:Nat}:nth (xs.drop o) j = nth xs (o + j):=by
 unfold nth
 rw [List.getD_eq_getElem?_getD,List.getD_eq_getElem?_getD,List.getElem?_drop]
theorem numG_drop {xs : List Int} {most : Int} {a b : Nat} (ha : a ≤ xs.length) : ∀ k i, numG xs most (a + b) k i = (match numG (xs.drop a) most b k i with
    | .ok v nx=>.ok v (a + nx)
    | .err e nx=>.err e (a + nx))
 | 0,i=>by rw [numG,numG]; simp only [Nat.add_assoc]
 | k + 1,i=>by
  have hn:nG xs (a + b) (i + 1) = nG (xs.drop a) b (i + 1):=nG_congr _ fun j hj=>by rw [nth_drop',Nat.add_assoc]
  have e0:nth xs (a + b) = nth (xs.drop a) b:=by rw [nth_drop']
  have e1:nth xs (a + b + i) = nth (xs.drop a) (b + i):=by rw [nth_drop',Nat.add_assoc]
  have hl:(xs.drop a).length = xs.length - a:=List.length_drop
  have ih:=numG_drop (xs:=xs) (most:=most) (a:=a) (b:=b) ha k (i + 1)
  rw [numG,numG,hn,e0,e1]
  by_cases h1:xs.length≤a + b + i
  ·have h1' : (xs.drop a).length≤b + i:=by omega
   simp only [if_pos h1,if_pos h1']
   simp only [Nat.add_assoc]
  ·have h1' : ¬ (xs.drop a).length≤b + i:=by omega
   simp only [if_neg h1,if_neg h1']
   by_cases h2:i = 0∧nth (xs.drop a) b = 128
   ·simp only [if_pos h2]
    simp only [Nat.add_assoc]
   ·simp only [if_neg h2]
    by_cases h3:nth (xs.drop a) (b + i) < 128
    ·simp only [if_pos h3]
     by_cases h4:most < nG (xs.drop a) b (i + 1)
     ·simp only [if_pos h4]
      simp only [Nat.add_assoc]
     ·simp only [if_neg h4]
      simp only [Nat.add_assoc]
    ·simp only [if_neg h3]
     exact ih
theorem sub_drop {xs:List Int} {a b m:Nat}:sub xs (a + b) m = sub (xs.drop a) b m:=by
 unfold sub
 rw [List.drop_drop]
theorem frF_drop {xs : List Int} {a : Nat} (ha : a ≤ xs.length) : frF xs a = match frF (xs.drop a) 0 with
    | .ok kd p m nx=>.ok kd (a + p) m (a + nx)
    | .err e nx=>.err e (a + nx):=by
 have hl:(xs.drop a).length = xs.length - a:=List.length_drop
 have e0:nth (xs.drop a) 0 = nth xs a:=by rw [nth_drop',Nat.add_zero]
 unfold frF
 by_cases h1:xs.length≤a
 ·have h1' : (xs.drop a).length≤0:=by omega
  rw [if_pos h1,if_pos h1']
  rfl
 ·have h1' : ¬ (xs.drop a).length≤0:=by omega
  rw [if_neg h1,if_neg h1',e0]
  by_cases h2:nth xs a < 1∨250 < nth xs a
  ·simp only [if_pos h2]
  ·simp only [if_neg h2]
   rw [Nat.zero_add,numG_drop ha 9 0]
   cases hr:numG (xs.drop a) 1000000000000000 1 9 0 with
   | err e nx=>rfl
   | ok v nx =>
    have hv:=numG_bd (xs:=xs.drop a) (at_:=1) 9 0 (by omega) hr
    simp only
    by_cases h3:10000 < v
    ·simp only [if_pos h3]
    ·simp only [if_neg h3]
     by_cases h4:((xs.drop a).length:Int) < nx + v + 2
     ·have h4' : (xs.length:Int) < ((a + nx:Nat):Int) + v + 2:=by omega
      rw [if_pos h4',if_pos h4]
     ·have h4' : ¬ (xs.length:Int) < ((a + nx:Nat):Int) + v + 2:=by omega
      rw [if_neg h4',if_neg h4]
      have e1:sub xs a (a + nx + v.toNat - a) = sub (xs.drop a) 0 (nx + v.toNat - 0):=by
       rw [show a + nx + v.toNat - a = nx + v.toNat - 0 by omega]
       exact sub_drop (b:=0)
      have e2:nth xs (a + nx + v.toNat) = nth (xs.drop a) (nx + v.toNat):=by rw [nth_drop',Nat.add_assoc]
      have e3:nth xs (a + nx + v.toNat + 1) = nth (xs.drop a) (nx + v.toNat + 1):=by rw [nth_drop',Nat.add_assoc,Nat.add_assoc,Nat.add_assoc]
      rw [e1,e2,e3]
      by_cases h5:(crc (sub (xs.drop a) 0 (nx + v.toNat - 0)):Int)≠nth (xs.drop a) (nx + v.toNat) * 256 + nth (xs.drop a) (nx + v.toNat + 1)
      ·simp only [if_pos h5]
       simp only [Nat.add_assoc]
      ·simp only [if_neg h5]
       simp only [Nat.add_assoc]
def okV' (v:Nat×List Int):Prop:=1≤v.1∧v.1≤250∧v.2.length≤10000∧isB v.2
theorem frF_at {P zs:List Int} {v:Nat×List Int} (hv:okV' v) (hz:isB zs):frF (P++(frB v.1 v.2++zs)) P.length = .ok v.1 (P.length + (1 + (groups v.2.length).length)) v.2.length (P.length + (frB v.1 v.2).length):=by
 obtain ⟨v1,v2,v3,v4⟩:=hv
 rw [frF_drop (by rw [List.length_append]; omega),List.drop_left]
 have hl:(frB v.1 v.2).length = 1 + (groups v.2.length).length + v.2.length + 2:=by rw [frB_len,frH_len]
 have hh:=frB_head (kind:=v.1) (xs:=v.2) (zs:=zs)
 have:=(frF_head (ys:=frB v.1 v.2++zs) (kind:=v.1) (n:=v.2.length) ⟨v1,v2⟩ v3 hh.1 hh.2 (by rw [List.length_append]; omega) (by
  intro x hx
  rcases List.mem_append.1 hx with hx|hx
  ·exact frB_isB (by omega) v4 (by omega) x hx
  ·exact hz x hx)).1 frB_fits
 rw [this,hl]
def catF (vs:List (Nat×List Int)):List Int:=vs.flatMap fun v=>frB v.1 v.2
def fnd:Nat→List (Nat×List Int)→List (Int×Int×Int)
 | _,[]=>[]
 | o,v :: r=>((o:Int),((frB v.1 v.2).length:Int),(v.1:Int)) :: fnd (o + (frB v.1 v.2).length) r
theorem catF_cons {v:Nat×List Int} {r:List (Nat×List Int)}:catF (v :: r) = frB v.1 v.2++catF r:=by unfold catF; rw [List.flatMap_cons]
theorem catF_isB : ∀ {vs:List (Nat×List Int)},(∀ v∈vs,okV' v)→isB (catF vs)
 | [],_=>fun x hx=>by cases hx
 | v :: r,h=>by
  rw [catF_cons]
  intro x hx
  have hv:=h v (List.mem_cons_self ..)
  rcases List.mem_append.1 hx with hx|hx
  ·exact frB_isB (by have:=hv.2.1; omega) hv.2.2.2 (by have:=hv.2.2.1; omega) x hx
  ·exact catF_isB (fun u hu=>h u (List.mem_cons_of_mem _ hu)) x hx
theorem getR_at {P zs:List Int} {v:Nat×List Int} (hv:okV' v) (hz:isB zs) (hl:(P++(frB v.1 v.2++zs)).length≤30000) : ∃ pay,getR (P++(frB v.1 v.2++zs)) P.length = ((v.1:Int),pay,((P.length + (frB v.1 v.2).length:Nat):Int),0):=by
 unfold getR
 rw [if_neg (by omega),if_neg (by rw [List.length_append]; omega),Int.toNat_natCast,frF_at hv hz]
 exact ⟨_,rfl⟩
theorem scan_pre {zs : List Int} (hz : isB zs) : ∀ (vs : List (Nat × List Int)) (P : List Int) (F : List (Int × Int × Int)), (∀ v ∈ vs, okV' v) → (P ++ (catF vs ++ zs)).length ≤ 30000 →
    scFin (P++(catF vs++zs)) ⟨P.length,P.length,F,[]⟩ = scFin (P++(catF vs++zs)) ⟨P.length + (catF vs).length,P.length + (catF vs).length,F++fnd P.length vs,[]⟩
 | [],P,F,_,_=>by
  show _ = scFin _ ⟨P.length + 0,P.length + 0,F++[],[]⟩
  rw [Nat.add_zero,List.append_nil]
 | v :: r,P,F,h,hl=>by
  have hv:=h v (List.mem_cons_self ..)
  have hr:=fun u hu=>h u (List.mem_cons_of_mem _ hu)
  have e1:P++(catF (v :: r)++zs) = P++(frB v.1 v.2++(catF r++zs)):=by rw [catF_cons,List.append_assoc]
  have e2:P++(catF (v :: r)++zs) = (P++frB v.1 v.2)++(catF r++zs):=by rw [e1,List.append_assoc]
  have hzr:isB (catF r++zs):=fun x hx=>by
   rcases List.mem_append.1 hx with hx|hx
   ·exact catF_isB hr x hx
   ·exact hz x hx
  obtain ⟨pay,hg⟩:=getR_at (P:=P) hv hzr (by rw [← e1]; exact hl)
  have hfl:0 < (frB v.1 v.2).length:=by rw [frB_len]; omega
  have hs:scS (P++(catF (v :: r)++zs)) ⟨P.length,P.length,F,[]⟩ = ⟨P.length + (frB v.1 v.2).length,P.length + (frB v.1 v.2).length,F++[((P.length:Int),((frB v.1 v.2).length:Int),(v.1:Int))],[]⟩:=by
   unfold scS
   rw [e1]
   simp only [hg,if_true,Int.toNat_natCast]
   have e3:((P.length + (frB v.1 v.2).length:Nat):Int) - (P.length:Int) = ((frB v.1 v.2).length:Int):=by omega
   rw [e3]
   unfold lz
   rw [if_neg (Nat.lt_irrefl _)]
  have hlt:P.length < (P++(catF (v :: r)++zs)).length:=by
   rw [e1,List.length_append,List.length_append]
   omega
  have ih:=scan_pre hz r (P++frB v.1 v.2) (F++[((P.length:Int),((frB v.1 v.2).length:Int),(v.1:Int))]) hr (by rw [← e2]; exact hl)
  rw [← e2,List.length_append] at ih
  rw [scFin,dif_pos ⟨hlt,by rw [hs]; show P.length < P.length + _; omega⟩,hs,ih]
  have e4:P.length + (catF (v :: r)).length = P.length + (frB v.1 v.2).length + (catF r).length:=by rw [catF_cons,List.length_append]; omega
  have e5:F++fnd P.length (v :: r) = F++[((P.length:Int),((frB v.1 v.2).length:Int),(v.1:Int))]++fnd (P.length + (frB v.1 v.2).length) r:=by
   rw [List.append_assoc]
   rfl
  rw [e4,e5]
theorem scan_all {vs:List (Nat×List Int)} (h : ∀ v∈vs,okV' v) (hl:(catF vs).length≤30000):scF (catF vs) = fnd 0 vs∧scL (catF vs) = []∧scE (catF vs) = 0:=by
 have:=scan_pre (zs:=[]) (fun x hx=>by cases hx) vs [] [] h (by simpa using hl)
 simp only [List.nil_append,List.append_nil,List.length_nil,Nat.zero_add] at this
 have e:scFin (catF vs) sc0 = ⟨(catF vs).length,(catF vs).length,fnd 0 vs,[]⟩:=by
  show scFin (catF vs) ⟨0,0,[],[]⟩ = _
  rw [this,scFin,dif_neg (by show ¬ ((catF vs).length < (catF vs).length∧_); omega)]
 unfold scF scL scE
 rw [if_neg (by omega),if_neg (by omega),if_neg (by omega),e]
 refine ⟨rfl,?_,rfl⟩
 unfold lz
 rw [if_neg (Nat.lt_irrefl _)]
inductive Cov (ys:List Int):Nat→Bool→List (Int×Int×Int)→List (Int×Int)→Prop
 | done (b:Bool):Cov ys ys.length b [] []
 | found {a nx:Nat} {b:Bool} {kd:Int} {pay:List Int} {F:List (Int×Int×Int)} {L:List (Int×Int)} (hg:getR ys a = (kd,pay,(nx:Int),0)) (hl:a < nx) (hn:nx≤ys.length) (h:Cov ys nx true F L):Cov ys a b (((a:Int),(nx:Int) - a,kd) :: F) L
 | lost {a hi:Nat} {F:List (Int×Int×Int)} {L:List (Int×Int)} (h1:a≤hi) (h2:hi < ys.length) (hf : ∀ x,F.head? = some x→x.1≠a) (h:Cov ys (hi + 1) false F L):Cov ys a true F (((a:Int),(hi:Int)) :: L)
theorem scan_cov {ys : List Int} (hy : ys.length ≤ 30000) : ∀ (k : Nat) (s : Sc), ys.length - s.at_ ≤ k → s.since ≤ s.at_ → s.at_ ≤ ys.length →
    ∃ F' L',(scFin ys s).found = s.found++F'∧lz (scFin ys s).lost (scFin ys s).since (scFin ys s).at_ = s.lost++L'∧(∀ x,F'.head? = some x→(s.at_:Int)≤x.1)∧Cov ys s.since true F' L':=by
 intro k
 induction k with
 | zero =>
  intro s hk h1 h2
  rw [scFin,dif_neg (by omega)]
  have he:s.at_ = ys.length:=by omega
  by_cases hs:s.since < s.at_
  ·refine ⟨[],[((s.since:Int),(s.at_:Int) - 1)],by rw [List.append_nil],by unfold lz; rw [if_pos hs],(fun x hx=>by cases hx),?_⟩
   have e3:((s.at_:Int) - 1) = ((s.at_ - 1:Nat):Int):=by omega
   rw [e3]
   refine Cov.lost (by omega) (by omega) (fun x hx=>by cases hx) ?_
   rw [show s.at_ - 1 + 1 = ys.length by omega]
   exact Cov.done false
  ·refine ⟨[],[],by rw [List.append_nil],by unfold lz; rw [if_neg hs,List.append_nil],(fun x hx=>by cases hx),?_⟩
   rw [show s.since = ys.length by omega]
   exact Cov.done true
 | succ k ih =>
  intro s hk h1 h2
  by_cases he:s.at_ < ys.length
  ·by_cases hg:(getR ys s.at_).2.2.2 = 0
   ·obtain ⟨nx,e,b1,b2,_⟩:=getR_ok hy h2 hg
    have hs:scS ys s = ⟨nx,nx,s.found++[((s.at_:Int),(nx:Int) - s.at_,(getR ys s.at_).1)],lz s.lost s.since s.at_⟩:=by
     unfold scS
     rw [if_pos hg,e,Int.toNat_natCast]
    have hnx:s.at_ < nx:=by omega
    obtain ⟨F1,L1,i1,i2,i3,i4⟩:=ih (scS ys s) (by rw [hs]; show ys.length - nx≤k; omega) (by rw [hs]; exact Nat.le_refl _) (by rw [hs]; show nx≤ys.length; omega)
    rw [scFin,dif_pos ⟨he,by rw [hs]; exact hnx⟩]
    rw [hs] at i1 i2 i4 ⊢
    have hgr:getR ys s.at_ = ((getR ys s.at_).1,(getR ys s.at_).2.1,(nx:Int),0):=by
     conv=>lhs; rw [show getR ys s.at_ = ((getR ys s.at_).1,(getR ys s.at_).2.1,(getR ys s.at_).2.2.1,(getR ys s.at_).2.2.2) from rfl]
     rw [e,hg]
    have hfound : ∀ b,Cov ys s.at_ b (((s.at_:Int),(nx:Int) - s.at_,(getR ys s.at_).1) :: F1) L1:=fun b=>Cov.found hgr hnx (by omega) i4
    by_cases hs2:s.since < s.at_
    ·refine ⟨((s.at_:Int),(nx:Int) - s.at_,(getR ys s.at_).1) :: F1,((s.since:Int),(s.at_:Int) - 1) :: L1,?_,?_,fun x hx=>?_,?_⟩
     ·rw [i1]
      show (s.found++[_])++F1 = _
      rw [List.append_assoc]
      rfl
     ·rw [i2]
      show lz s.lost s.since s.at_++L1 = _
      unfold lz
      rw [if_pos hs2,List.append_assoc]
      rfl
     ·have hx:some _ = some x:=hx
      injection hx with hx
      subst hx
      exact Int.le_refl _
     ·have e3:((s.at_:Int) - 1) = ((s.at_ - 1:Nat):Int):=by omega
      rw [e3]
      refine Cov.lost (by omega) (by omega) (fun x hx=>?_) ?_
      ·have hx:some _ = some x:=hx
       injection hx with hx
       subst hx
       show (s.at_:Int)≠s.since
       omega
      ·rw [show s.at_ - 1 + 1 = s.at_ by omega]
       exact hfound false
    ·refine ⟨((s.at_:Int),(nx:Int) - s.at_,(getR ys s.at_).1) :: F1,L1,?_,?_,fun x hx=>?_,?_⟩
     ·rw [i1]
      show (s.found++[_])++F1 = _
      rw [List.append_assoc]
      rfl
     ·rw [i2]
      show lz s.lost s.since s.at_++L1 = _
      unfold lz
      rw [if_neg hs2]
     ·have hx:some _ = some x:=hx
      injection hx with hx
      subst hx
      exact Int.le_refl _
     ·rw [show s.since = s.at_ by omega]
      exact hfound true
   ·have hs : scS ys s = ⟨s.at_ + 1, s.since, s.found, s.lost⟩ := by
      unfold scS
      rw [if_neg hg]
    obtain ⟨F1,L1,i1,i2,i3,i4⟩:=ih (scS ys s) (by rw [hs]; show ys.length - (s.at_ + 1)≤k; omega) (by rw [hs]; show s.since≤s.at_ + 1; omega) (by rw [hs]; show s.at_ + 1≤ys.length; omega)
    rw [scFin,dif_pos ⟨he,by rw [hs]; show s.at_ < s.at_ + 1; omega⟩]
    rw [hs] at i1 i2 i3 i4 ⊢
    refine ⟨F1,L1,i1,i2,fun x hx=>?_,i4⟩
    have:=i3 x hx
    have:((s.at_ + 1:Nat):Int)≤x.1:=this
    omega
  ·exact ih s (by omega) h1 h2
theorem scan_covers {ys:List Int} (hy:ys.length≤30000):Cov ys 0 true (scF ys) (scL ys):=by
 obtain ⟨F',L',h1,h2,_,h4⟩:=scan_cov hy ys.length sc0 (by omega) (Nat.le_refl _) (Nat.zero_le _)
 unfold scF scL
 rw [if_neg (by omega),if_neg (by omega),h1,h2]
 exact h4
theorem scan_more {ys:List Int} (hy:ys.length≤30000) (s:Sc) (h1:s.since≤s.at_) (h2:s.at_≤ys.length) : ∃ G,(scFin ys s).found = s.found++G:=by
 obtain ⟨F',L',h,_⟩:=scan_cov hy _ s (Nat.le_refl _) h1 h2
 exact ⟨F',h⟩
theorem scan_ahead {vs:List (Nat×List Int)} {zs:List Int} (h : ∀ v∈vs,okV' v) (hz:isB zs) (hl:(catF vs++zs).length≤30000) : ∃ G,scF (catF vs++zs) = fnd 0 vs++G:=by
 have:=scan_pre hz vs [] [] h (by simpa using hl)
 simp only [List.nil_append,List.length_nil,Nat.zero_add] at this
 obtain ⟨G,hG⟩:=scan_more hl ⟨(catF vs).length,(catF vs).length,fnd 0 vs,[]⟩ (Nat.le_refl _) (by rw [List.length_append]; exact Nat.le_add_right _ _)
 refine ⟨G,?_⟩
 unfold scF
 rw [if_neg (by omega)]
 show (scFin _ ⟨0,0,[],[]⟩).found = _
 rw [this]
 exact hG
end Go.Proofs.YtgjokhodccacoaaDoor
set_option linter.unusedSimpArgs false
set_option linter.unusedVariables false
namespace Go.Vm
open Go Go.RowKit
section
variable {P:Program} {w:Bool} {t el:TypeId} {f:TypeInfo} {s k n c sz o:Nat} {l:Fr} {h:AH} {K:Value→AH→Prop}
theorem gen_tail (hu : P.underlying t = some (.slice el)) (hi : P.info? el = some f) (hsz : f.size = sz) (hl : lk l s = some (.slice (some ⟨k, o, none⟩) n c)) (hc : openB ≤ c) (hn : 2 ≤ n) (q : K (.slice (some ⟨k, o + sz, none⟩) (n - 1) (c + 1)) h) :
    iStep P w (.gen (.slice t (.tmp s) (some (.const (.int .i64 1))) none none)) l h K:=by
 refine ⟨_,_,?_,q⟩
 have e1:aEnv (trOf l) (.tmp s) = some (.slice (some ⟨k,o,none⟩) n c):=by simp only [aEnv,trOf_get,hl]
 have e2:aOptV (aEnv (trOf l)) (some (.const (.int .i64 1))) = some (some (.int .i64 1)):=rfl
 have e4:aOptV (aEnv (trOf l)) none = some none:=rfl
 have n1:natOf (some (.int .i64 1)) 0 = some 1:=rfl
 have n2:natOf none n = some n:=rfl
 have n3:natOf none c = some c:=rfl
 have hv:aSlice P t (.slice (some ⟨k,o,none⟩) n c) (some (.int .i64 1)) none none = some (.slice (some ⟨k,o + sz,none⟩) (n - 1) (c + 1)):=by
  simp only [aSlice,hu,hi,n1,n2,n3,hsz]
  rw [if_neg (by omega),if_neg (by simp),if_pos ⟨by omega,Nat.le_refl _,by omega⟩]
  simp only [Addr.add,Nat.one_mul]
  split
  ·rename_i hz; rw [hz]; rfl
  ·rfl
 simp only [aOp,e1,e2,e4,hv]
theorem gen_tail1 (hu : P.underlying t = some (.slice el)) (hi : P.info? el = some f) (hl : lk l s = some (.slice (some ⟨k, o, none⟩) 1 c)) (hc : openB ≤ c) (q : K (.slice (some ⟨h.next, 0, none⟩) 0 openB) h.bump) :
    iStep P w (.gen (.slice t (.tmp s) (some (.const (.int .i64 1))) none none)) l h K:=by
 refine ⟨_,_,?_,q⟩
 have e1:aEnv (trOf l) (.tmp s) = some (.slice (some ⟨k,o,none⟩) 1 c):=by simp only [aEnv,trOf_get,hl]
 have e2:aOptV (aEnv (trOf l)) (some (.const (.int .i64 1))) = some (some (.int .i64 1)):=rfl
 have e4:aOptV (aEnv (trOf l)) none = some none:=rfl
 have n1:natOf (some (.int .i64 1)) 0 = some 1:=rfl
 have n2:natOf none 1 = some 1:=rfl
 have n3:natOf none c = some c:=rfl
 have h1:aSlice P t (.slice (some ⟨k,o,none⟩) 1 c) (some (.int .i64 1)) none none = none:=by
  simp only [aSlice,hu,hi,n1,n2,n3]
  rw [if_neg (by omega)]
  simp
 have h2:aSliceEnd P h t (.slice (some ⟨k,o,none⟩) 1 c) (some (.int .i64 1)) none none = some (.slice (some ⟨h.next,0,none⟩) 0 openB,h.bump):=by
  simp only [aSliceEnd,hu,hi,n1,n2]
  rw [if_pos ⟨hc,trivial,Nat.le_refl _⟩]
 simp only [aOp,e1,e2,e4,h1,h2]
end
end Go.Vm
namespace Go.Proofs.YtgjokhodccacoaaDoor
open Go.RowKit Go.Vm
set_option maxRecDepth 100000
theorem u_sl3:Tryd.prog.underlying 34 = some (.slice 39):=by kernel_rfl
theorem u_sl2:Tryd.prog.underlying 35 = some (.slice 41):=by kernel_rfl
theorem i_f3:Tryd.prog.info? 39 = some ((Tryd.prog.info? 39).get rfl):=by kernel_rfl
theorem sz_f3:((Tryd.prog.info? 39).get rfl).size = 3:=by kernel_rfl
theorem i_r2:Tryd.prog.info? 41 = some ((Tryd.prog.info? 41).get rfl):=by kernel_rfl
theorem sz_r2:((Tryd.prog.info? 41).get rfl).size = 2:=by kernel_rfl
def Lft {α:Type} (f:α→List Value) (w:Nat) (M:List (Option AObj)) (k o c:Nat) (F:List α):Prop:=openB≤c∧(F≠[]→∃ (pre:List α) (sz:Nat) (op:Bool),M[k]? = some (some (.cells ⟨rows f (pre++F),sz,op⟩))∧o = pre.length * w)
theorem Lft.get {α:Type} [Inhabited α] {f:α→List Value} {w:Nat} [FlatE f w] {M:List (Option AObj)} {k o c:Nat} {x:α} {F:List α} (h:Lft f w M k o c (x :: F)) : ∃ cs sz op,M[k]? = some (some (.cells ⟨cs,sz,op⟩))∧∀ j,j < w→cs[o + j]? = (f x)[j]?:=by
 obtain ⟨_,h2⟩:=h
 obtain ⟨pre,sz,op,h3,rfl⟩:=h2 (by simp)
 refine ⟨_,sz,op,h3,fun j hj=>?_⟩
 have hn:nth (pre++x :: F) pre.length = x:=nth_of (by simp)
 have:=rows_get (f:=f) (xs:=pre++x :: F) (i:=pre.length) (j:=j) (by simp) hj
 rw [hn] at this
 exact this
theorem Lft.mono {α:Type} {f:α→List Value} {w:Nat} {M M' : List (Option AObj)} {k o c:Nat} {F:List α} (h:Lft f w M k o c F) (hm : ∀ (k:Nat) (o:AObj),M[k]? = some (some o)→M'[k]? = some (some o)):Lft f w M' k o c F:=by
 obtain ⟨h1,h2⟩:=h
 exact ⟨h1,fun e=>by
  obtain ⟨pre,sz,op,h3,h4⟩:=h2 e
  exact ⟨pre,sz,op,hm _ _ h3,h4⟩⟩
theorem Lft.tail {α:Type} {f:α→List Value} {w:Nat} {M:List (Option AObj)} {k o c:Nat} {x:α} {F:List α} (h:Lft f w M k o c (x :: F)):Lft f w M k (o + w) (c + 1) F:=by
 obtain ⟨h1,h2⟩:=h
 refine ⟨by omega,fun _=>?_⟩
 obtain ⟨pre,sz,op,h3,rfl⟩:=h2 (by simp)
 refine ⟨pre++[x],sz,op,?_,?_⟩
 ·rw [List.append_assoc]
  exact h3
 ·rw [List.length_append,List.length_singleton,Nat.add_mul,Nat.one_mul]
theorem Lft.nil {α:Type} {f:α→List Value} {w:Nat} {M:List (Option AObj)} {k:Nat}:Lft f w M k 0 openB ([]:List α):=⟨Nat.le_refl _,fun h=>absurd rfl h⟩
structure CS where
 a:Nat
 b:Bool
 F:List (Int×Int×Int)
 L:List (Int×Int)
 kf:Nat
 of:Nat
 cf:Nat
 kl:Nat
 ol:Nat
 cl:Nat
 M:List (Option AObj)
abbrev cvM (ys:List Int) (fs:List (Int×Int×Int)) (ls:List (Int×Int)):List (Option AObj):=[none,srB ys,some (.cells ⟨rows eF3 fs,0,false⟩),some (.cells ⟨rows eR2 ls,0,false⟩)]
def CJ (ys:List Int) (s:CS):Prop:=Cov ys s.a s.b s.F s.L∧s.a≤ys.length∧Lft eF3 3 s.M s.kf s.of s.cf s.F∧Lft eR2 2 s.M s.kl s.ol s.cl s.L∧s.M[1]? = some (srB ys)∧4≤s.M.length
abbrev frC (n c:Nat) (s:CS):Fr:=[(0,.slice (some ⟨1,0,none⟩) n c),(1,.slice (some ⟨s.kf,s.of,none⟩) s.F.length s.cf),(2,.slice (some ⟨s.kl,s.ol,none⟩) s.L.length s.cl),(7,.int .i64 s.a),(8,.bool s.b)]
theorem cvM_app {M X:List (Option AObj)} (k:Nat) (o:AObj) (h:M[k]? = some (some o)):(M++X)[k]? = some (some o):=low_get h
def ir47_r0:IC:=.reg [⟨some 6,none,false,.mv (.k (.bool false))⟩] (some [0,1,2])
def ir47_r1:IC:=.reg [⟨some 7,none,false,.mv (.k (.int .i64 0))⟩,
 ⟨some 8,none,false,.mv (.k (.bool true))⟩] (some [0,1,2,7,8])
def ir47_r2:IC:=.reg [⟨some 12,none,false,.mv (.t 7)⟩,
 ⟨some 13,none,false,.mv (.t 0)⟩,
 ⟨some 14,none,false,.len (.t 13)⟩,
 ⟨some 15,none,false,.cmp .lss (.t 12) (.t 14)⟩] (some [0,1,2,7,8,15])
def ir47_1:IC:=.cond (.t 15) .skip (.exit 0)
def ir47_2:IC:=.seq ir47_r2 ir47_1
def ir47_r4:IC:=.reg [⟨some 17,none,false,.mv (.t 1)⟩,
 ⟨some 18,none,false,.len (.t 17)⟩,
 ⟨some 19,none,false,.cmp .gtr (.t 18) (.k (.int .i64 0))⟩,
 ⟨some 20,none,false,.mv (.t 19)⟩,
 ⟨some 21,some (20,true),false,.mv (.t 1)⟩,
 ⟨some 22,some (20,true),false,.iad 3 (.t 21) (.k (.int .i64 0))⟩,
 ⟨some 23,some (20,true),false,.fad 0 (.t 22)⟩,
 ⟨some 24,some (20,true),false,.ldc (.t 23)⟩,
 ⟨some 25,some (20,true),false,.mv (.t 7)⟩,
 ⟨some 26,some (20,true),false,.cmp .eql (.t 24) (.t 25)⟩,
 ⟨some 27,none,false,.pick (.t 20) (.t 26) (.k (.bool false))⟩,
 ⟨some 16,none,false,.mv (.t 27)⟩] (some [0,1,2,7,8,16])
def ir47_r5:IC:=.reg [⟨some 29,none,false,.mv (.t 0)⟩,
 ⟨some 30,none,false,.call (.f 20) [(.t 29)]⟩,
 ⟨some 31,none,false,.mv (.t 7)⟩,
 ⟨some 32,none,false,.call (.f 25) [(.t 30),(.t 31)]⟩,
 ⟨some 28,none,false,.mv (.t 32)⟩,
 ⟨some 33,none,false,.ext (.t 28) 0⟩,
 ⟨some 34,none,false,.ext (.t 28) 1⟩,
 ⟨some 35,none,false,.ext (.t 28) 2⟩,
 ⟨some 9,none,false,.alloc [(.int .i64 0),(.slice none 0 0)]⟩,
 ⟨none,none,false,.st 2 (.t 9) (.t 33)⟩,
 ⟨some 10,none,false,.mv (.t 34)⟩,
 ⟨some 11,none,false,.mv (.t 35)⟩] (some [0,1,2,7,9,10,11])
def ir47_r6:IC:=.draw [(⟨some 36,none,false,.mv (.t 11)⟩,false,0,0),
 (⟨some 37,none,false,.cmp .neq (.t 36) (.k (.int .i64 0))⟩,false,1,0),
 (⟨some 38,none,false,.mv (.t 37)⟩,false,3,0),
 (⟨some 39,some (38,false),false,.mv (.t 10)⟩,false,7,0),
 (⟨some 40,some (38,false),false,.mv (.t 7)⟩,false,7,0),
 (⟨some 41,some (38,false),false,.mv (.t 1)⟩,false,7,0),
 (⟨some 42,some (38,false),false,.iad 3 (.t 41) (.k (.int .i64 0))⟩,false,39,0),
 (⟨some 43,some (38,false),false,.fad 1 (.t 42)⟩,false,103,0),
 (⟨some 44,some (38,false),false,.ldc (.t 43)⟩,true,231,0),
 (⟨some 45,some (38,false),false,.ar .add (.t 40) (.t 44)⟩,false,503,0),
 (⟨some 46,some (38,false),false,.cmp .neq (.t 39) (.t 45)⟩,false,1023,0),
 (⟨some 47,none,false,.pick (.t 38) (.k (.bool true)) (.t 46)⟩,false,2047,0),
 (⟨some 48,none,false,.mv (.t 47)⟩,false,4095,0),
 (⟨some 49,some (48,false),false,.fad 0 (.t 9)⟩,false,8191,0),
 (⟨some 50,some (48,false),false,.ldc (.t 49)⟩,false,16383,1),
 (⟨some 51,some (48,false),false,.mv (.t 1)⟩,false,8191,0),
 (⟨some 52,some (48,false),false,.iad 3 (.t 51) (.k (.int .i64 0))⟩,false,40959,0),
 (⟨some 53,some (48,false),false,.fad 2 (.t 52)⟩,false,106495,0),
 (⟨some 54,some (48,false),false,.ldc (.t 53)⟩,false,237567,16384),
 (⟨some 55,some (48,false),false,.cmp .neq (.t 50) (.t 54)⟩,false,524287,0),
 (⟨some 56,none,false,.pick (.t 48) (.k (.bool true)) (.t 55)⟩,false,1048575,0),
 (⟨some 57,none,false,.mv (.t 56)⟩,false,2097151,0),
 (⟨some 58,some (57,false),false,.mv (.t 10)⟩,false,4194303,0),
 (⟨some 59,some (57,false),false,.mv (.t 7)⟩,false,4194303,0),
 (⟨some 60,some (57,false),false,.cmp .leq (.t 58) (.t 59)⟩,false,16777215,0),
 (⟨some 61,none,false,.pick (.t 57) (.k (.bool true)) (.t 60)⟩,false,33554431,0)] (some [0,1,2,10,61])
def ir47_r7:IC:=.reg [⟨some 6,none,false,.mv (.k (.bool false))⟩] (some [6])
def ir47_3:IC:=.seq ir47_r7 .ret
def ir47_4:IC:=.cond (.t 61) ir47_3 .skip
def ir47_5:IC:=.seq ir47_r6 ir47_4
def ir47_r8:IC:=.draw [(⟨some 62,none,false,.mv (.t 10)⟩,false,0,0),
 (⟨some 63,none,false,.mv (.t 1)⟩,false,0,0),
 (⟨some 64,none,false,.gen (.slice 34 (.tmp 63) (some (.const (.int .i64 1))) none none)⟩,true,2,0),
 (⟨some 7,none,false,.mv (.t 62)⟩,false,1,0),
 (⟨some 1,none,false,.mv (.t 64)⟩,false,15,0),
 (⟨some 8,none,false,.mv (.k (.bool true))⟩,false,31,0)] (some [0,1,2,7,8])
def ir47_6:IC:=.seq ir47_5 ir47_r8
def ir47_7:IC:=.seq ir47_r5 ir47_6
def ir47_r9:IC:=.reg [⟨some 66,none,false,.mv (.t 2)⟩,
 ⟨some 67,none,false,.len (.t 66)⟩,
 ⟨some 68,none,false,.cmp .gtr (.t 67) (.k (.int .i64 0))⟩,
 ⟨some 69,none,false,.mv (.t 68)⟩,
 ⟨some 70,some (69,true),false,.mv (.t 2)⟩,
 ⟨some 71,some (69,true),false,.iad 2 (.t 70) (.k (.int .i64 0))⟩,
 ⟨some 72,some (69,true),false,.fad 0 (.t 71)⟩,
 ⟨some 73,some (69,true),false,.ldc (.t 72)⟩,
 ⟨some 74,some (69,true),false,.mv (.t 7)⟩,
 ⟨some 75,some (69,true),false,.cmp .eql (.t 73) (.t 74)⟩,
 ⟨some 76,none,false,.pick (.t 69) (.t 75) (.k (.bool false))⟩,
 ⟨some 77,none,false,.mv (.t 76)⟩,
 ⟨some 78,some (77,true),false,.mv (.t 8)⟩,
 ⟨some 79,none,false,.pick (.t 77) (.t 78) (.k (.bool false))⟩,
 ⟨some 80,none,false,.mv (.t 79)⟩,
 ⟨some 81,some (80,true),false,.mv (.t 2)⟩,
 ⟨some 82,some (80,true),false,.iad 2 (.t 81) (.k (.int .i64 0))⟩,
 ⟨some 83,some (80,true),false,.fad 1 (.t 82)⟩,
 ⟨some 84,some (80,true),false,.ldc (.t 83)⟩,
 ⟨some 85,some (80,true),false,.mv (.t 7)⟩,
 ⟨some 86,some (80,true),false,.cmp .geq (.t 84) (.t 85)⟩,
 ⟨some 87,none,false,.pick (.t 80) (.t 86) (.k (.bool false))⟩,
 ⟨some 88,none,false,.mv (.t 87)⟩,
 ⟨some 89,some (88,true),false,.mv (.t 2)⟩,
 ⟨some 90,some (88,true),false,.iad 2 (.t 89) (.k (.int .i64 0))⟩,
 ⟨some 91,some (88,true),false,.fad 1 (.t 90)⟩,
 ⟨some 92,some (88,true),false,.ldc (.t 91)⟩,
 ⟨some 93,some (88,true),false,.mv (.t 0)⟩,
 ⟨some 94,some (88,true),false,.len (.t 93)⟩,
 ⟨some 95,some (88,true),false,.cmp .lss (.t 92) (.t 94)⟩,
 ⟨some 96,none,false,.pick (.t 88) (.t 95) (.k (.bool false))⟩,
 ⟨some 65,none,false,.mv (.t 96)⟩] (some [0,1,2,65])
def ir47_r10:IC:=.draw [(⟨some 97,none,false,.mv (.t 2)⟩,false,0,0),
 (⟨some 98,none,false,.iad 2 (.t 97) (.k (.int .i64 0))⟩,false,1,0),
 (⟨some 99,none,false,.fad 1 (.t 98)⟩,false,3,0),
 (⟨some 100,none,false,.ldc (.t 99)⟩,false,7,1),
 (⟨some 101,none,false,.ar .add (.t 100) (.k (.int .i64 1))⟩,false,15,0),
 (⟨some 102,none,false,.mv (.t 2)⟩,false,0,0),
 (⟨some 103,none,false,.gen (.slice 35 (.tmp 102) (some (.const (.int .i64 1))) none none)⟩,false,32,8),
 (⟨some 7,none,false,.mv (.t 101)⟩,false,31,0),
 (⟨some 2,none,false,.mv (.t 103)⟩,false,255,0),
 (⟨some 8,none,false,.mv (.k (.bool false))⟩,false,511,0)] (some [0,1,2,7,8])
def ir47_r3:IC:=.reg [⟨some 6,none,false,.mv (.k (.bool false))⟩] (some [6])
def ir47_8:IC:=.seq ir47_r3 .ret
def ir47_9:IC:=.cond (.t 65) ir47_r10 ir47_8
def ir47_10:IC:=.seq ir47_r9 ir47_9
def ir47_11:IC:=.cond (.t 16) ir47_7 ir47_10
def ir47_12:IC:=.seq ir47_r4 ir47_11
def ir47_13:IC:=.block 2 ir47_12
def ir47_14:IC:=.block 1 ir47_13
def ir47_15:IC:=.seq ir47_2 ir47_14
def ir47_16:IC:=.loop ir47_15
def ir47_17:IC:=.block 0 ir47_16
def ir47_r11:IC:=.reg [⟨some 104,none,false,.mv (.t 1)⟩,
 ⟨some 105,none,false,.len (.t 104)⟩,
 ⟨some 106,none,false,.cmp .eql (.t 105) (.k (.int .i64 0))⟩,
 ⟨some 107,none,false,.mv (.t 106)⟩,
 ⟨some 108,some (107,true),false,.mv (.t 2)⟩,
 ⟨some 109,some (107,true),false,.len (.t 108)⟩,
 ⟨some 110,some (107,true),false,.cmp .eql (.t 109) (.k (.int .i64 0))⟩,
 ⟨some 111,none,false,.pick (.t 107) (.t 110) (.k (.bool false))⟩,
 ⟨some 6,none,false,.mv (.t 111)⟩] (some [6])
def ir47_18:IC:=.seq ir47_r11 .ret
def ir47_19:IC:=.seq ir47_17 ir47_18
def ir47_20:IC:=.seq ir47_r1 ir47_19
def ir47_21:IC:=.seq ir47_r0 ir47_20
def ir47:IC:=ir47_21
theorem fn47:FnIs Tryd.prog 47 ir47 112 [.tmp 6]:=⟨Tryd.f47,Tryd.f47.body.getD .skip,Tryd.func47,by kernel_rfl,by kernel_rfl,by kernel_rfl,by kernel_rfl⟩
theorem covers_c (n c : Nat) (ys : List Int) (fs : List (Int × Int × Int)) (ls : List (Int × Int)) (hn : ys.length = n) (hB : isB ys) (hb : n ≤ 30000) (hc : Cov ys 0 true fs ls) :
    Fc Tryd.prog 47 [.slice (some ⟨1,0,none⟩) n c,.slice (some ⟨2,0,none⟩) fs.length openB,.slice (some ⟨3,0,none⟩) ls.length openB] (Hp 4 (cvM ys fs ls)) (.bool true) (Hp 4 (cvM ys fs ls)):=by
 refine Fc.intro0 fn47 (by simp) rfl rfl ?_; simp only [argF]
 refine ITri.seq ?_
 refine ITri.reg pok ?_; simp -implicitDefEqProofs (disch:=first|decide|exact of_eq_true (eq_true rfl)|omega|assumption) only [↓vcD,vcE,↓vcG,vcF,evs,evP,evB,intsOf,fillC,Value.cells,pt,Value.oneCell',reduceIte,reduceCtorEq,Nat.reduceEqDiff,Nat.reduceAdd,Nat.reduceMul,Nat.reduceLT,Nat.reduceBEq,Nat.reduceLeDiff,Nat.reduceSub]
 refine ITri.seq ?_
 refine ITri.reg pok ?_; simp -implicitDefEqProofs (disch:=first|decide|exact of_eq_true (eq_true rfl)|omega|assumption) only [↓vcD,vcE,↓vcG,vcF,evs,evP,evB,intsOf,fillC,Value.cells,pt,Value.oneCell',reduceIte,reduceCtorEq,Nat.reduceEqDiff,Nat.reduceAdd,Nat.reduceMul,Nat.reduceLT,Nat.reduceBEq,Nat.reduceLeDiff,Nat.reduceSub]
 refine ITri.seq ?_
 refine ITri.block ?_
 refine ITri.loop (frC n c) (fun _=>[]) (fun s=>Hp 4 s.M) (CJ ys) (fun s=>n - s.a) ⟨0,true,fs,ls,2,0,openB,3,0,openB,cvM ys fs ls⟩ ⟨hc,Nat.zero_le _,⟨Nat.le_refl _,fun _=>⟨[],0,false,rfl,rfl⟩⟩,⟨Nat.le_refl _,fun _=>⟨[],0,false,rfl,rfl⟩⟩,rfl,Nat.le_refl _⟩ (Wk.sub ⟨rfl,rfl,rfl,rfl,rfl,trivial⟩) fun s J=>?_
 obtain ⟨a,b,F,L,kf,of,cf,kl,ol,cl,M⟩:=s
 obtain ⟨J1,J2,J3,J4,J5,J6⟩:=J
 simp only at J1 J2 J3 J4 J5 J6 ⊢
 refine ITri.seq ?_
 refine ITri.seq ?_
 refine ITri.reg pok ?_; simp -implicitDefEqProofs (disch:=first|decide|exact of_eq_true (eq_true rfl)|omega|assumption) only [↓vcD,vcE,↓vcG,vcF,evs,evP,evB,intsOf,fillC,Value.cells,pt,Value.oneCell',reduceIte,reduceCtorEq,Nat.reduceEqDiff,Nat.reduceAdd,Nat.reduceMul,Nat.reduceLT,Nat.reduceBEq,Nat.reduceLeDiff,Nat.reduceSub]
 refine ITri.condD (by rfl) (fun h2=>?_) (fun h2=>?_)
 ·have ha:a < ys.length:=by omega
  refine ITri.skip ?_; simp only [SeqQ_normal,BlkQ_normal]
  refine ITri.block ?_
  refine ITri.block ?_
  refine ITri.seq ?_
  cases J1 with
  | done b=>exact absurd ha (Nat.lt_irrefl _)
  | found hg hl hx h =>
   rename_i nx kd pay F
   obtain ⟨cs,sz,op,g1,g2⟩:=J3.get
   have g20:cs[of + Int.toNat 0 * 3]? = some (.int .i64 a):=g2 0 (by decide)
   have g21:cs[of + (Int.toNat 0 * 3 + 1)]? = some (.int .i64 ((nx:Int) - a)):=g2 1 (by decide)
   have g22:cs[of + (Int.toNat 0 * 3 + 2)]? = some (.int .i64 kd):=g2 2 (by decide)
   have hl0:(0:Int) < ((F.length + 1:Nat):Int):=by omega
   simp only [List.length_cons]
   refine ITri.reg pok ?_; simp -implicitDefEqProofs (disch:=first|decide|exact of_eq_true (eq_true rfl)|omega|assumption) only [hl0,g1,g20,decide_true, ↓vcD,vcE,↓vcG,vcF,evs,evP,evB,intsOf,fillC,Value.cells,pt,Value.oneCell',reduceIte,reduceCtorEq,Nat.reduceEqDiff,Nat.reduceAdd,Nat.reduceMul,Nat.reduceLT,Nat.reduceBEq,Nat.reduceLeDiff,Nat.reduceSub]
   refine ITri.cond (v:=true) rfl (fun _=>?_) (fun h=>by cases h)
   refine ITri.seq ?_
   refine ITri.reg pok ?_; simp -implicitDefEqProofs (disch:=first|decide|exact of_eq_true (eq_true rfl)|omega|assumption) only [↓vcD,vcE,↓vcG,vcF,evs,evP,evB,intsOf,fillC,Value.cells,pt,Value.oneCell',reduceIte,reduceCtorEq,Nat.reduceEqDiff,Nat.reduceAdd,Nat.reduceMul,Nat.reduceLT,Nat.reduceBEq,Nat.reduceLeDiff,Nat.reduceSub]
   refine ⟨_,_,ownB_f hn (by omega) (sees0 rfl (by omega)) (get_hq rfl (by rw [J5]; rfl)),?_⟩
   simp -implicitDefEqProofs (disch:=first|decide|exact of_eq_true (eq_true rfl)|omega|assumption) only [news_c,news_n, ↓vcD,vcE,↓vcG,vcF,evs,evP,evB,intsOf,fillC,Value.cells,pt,Value.oneCell',reduceIte,reduceCtorEq,Nat.reduceEqDiff,Nat.reduceAdd,Nat.reduceMul,Nat.reduceLT,Nat.reduceBEq,Nat.reduceLeDiff,Nat.reduceSub]
   refine ⟨_,_,get_f _ hn hB (by omega) (sees0 rfl (by rw [List.length_append]; omega)) (get_hq rfl (by rw [List.getElem?_append_right (Nat.le_refl _),Nat.sub_self]; rfl)),?_⟩
   rw [hg]
   have hM4:(4≤M.length + (1 + 1)):=by omega
   simp -implicitDefEqProofs (disch:=first|decide|exact of_eq_true (eq_true rfl)|omega|assumption) only [news_c,news_n,apd_get,apd_get0,apd_set0,apd_set,List.length_append,List.append_assoc,Nat.add_assoc,hM4, ↓vcD,vcE,↓vcG,vcF,evs,evP,evB,intsOf,fillC,Value.cells,pt,Value.oneCell',reduceIte,reduceCtorEq,Nat.reduceEqDiff,Nat.reduceAdd,Nat.reduceMul,Nat.reduceLT,Nat.reduceBEq,Nat.reduceLeDiff,Nat.reduceSub]
   have hadd:(a:Int) + ((nx:Int) - a) = nx:=by omega
   have hle : ¬ (nx:Int)≤a:=by omega
   have e00:of + Int.toNat 0 * 3 = of:=rfl
   have hr : ∀ T,(M++T)[kf]? = some (some (AObj.cells ⟨cs,sz,op⟩)):=fun T=>low_get g1
   have hT:=hr [some (AObj.cells ⟨rows eB ys,1,true⟩),some (AObj.cells ⟨rows eB pay,1,true⟩),some (AObj.cells ⟨[.int .i64 kd,sO (M.length + 1) pay.length],1,false⟩)]
   refine ITri.seq ?_
   refine ITri.seq ?_
   refine ITri.draw pok ?_; simp -implicitDefEqProofs (disch:=first|decide|exact of_eq_true (eq_true rfl)|omega|assumption) only [hT,g20,g21,g22,hadd,hle,decide_true,decide_false,Bool.not_true,apd_get,apd_get0,apd_set0,apd_set,List.length_append,List.append_assoc,Nat.add_assoc, ↓vcD,vcE,↓vcG,vcF,evs,evP,evB,intsOf,fillC,Value.cells,pt,Value.oneCell',reduceIte,reduceCtorEq,Nat.reduceEqDiff,Nat.reduceAdd,Nat.reduceMul,Nat.reduceLT,Nat.reduceBEq,Nat.reduceLeDiff,Nat.reduceSub]
   refine ITri.cond (v:=false) rfl (fun h=>by cases h) (fun _=>?_); refine ITri.skip ?_; simp only [SeqQ_normal,BlkQ_normal]
   have hJ : ∀ (M' : List (Option AObj)),(∀ (k:Nat) (o:AObj),M[k]? = some (some o)→M'[k]? = some (some o))→M.length≤M'.length→M'[1]? = some (srB ys)∧4≤M'.length∧Lft eR2 2 M' kl ol cl L:=fun M' h1 h2=>⟨h1 _ _ J5,by omega,J4.mono h1⟩
   refine ITri.draw pok ?_; simp -implicitDefEqProofs (disch:=first|decide|exact of_eq_true (eq_true rfl)|omega|assumption) only [hT, ↓vcD,vcE,↓vcG,vcF,evs,evP,evB,intsOf,fillC,Value.cells,pt,Value.oneCell',reduceIte,reduceCtorEq,Nat.reduceEqDiff,Nat.reduceAdd,Nat.reduceMul,Nat.reduceLT,Nat.reduceBEq,Nat.reduceLeDiff,Nat.reduceSub]
   cases F with
   | nil =>
    refine gen_tail1 u_sl3 i_f3 rfl J3.1 ?_
    try simp -implicitDefEqProofs (disch:=first|decide|exact of_eq_true (eq_true rfl)|omega|assumption) only [↓vcD,vcE,↓vcG,vcF,evs,evP,evB,intsOf,fillC,Value.cells,pt,Value.oneCell',reduceIte,reduceCtorEq,Nat.reduceEqDiff,Nat.reduceAdd,Nat.reduceMul,Nat.reduceLT,Nat.reduceBEq,Nat.reduceLeDiff,Nat.reduceSub]
    rw [Hq_bump,List.append_assoc]
    generalize (_:List (Option AObj))++[none] = T
    obtain ⟨q1,q2,q3⟩:=hJ (M++T) cvM_app (by rw [List.length_append]; omega)
    refine LoopQ.next ⟨nx,true,[],L,_,0,openB,kl,ol,cl,M++T⟩ ⟨h,hx,Lft.nil,q3,q1,q2⟩ (by show n - nx < n - a; omega) (Wk.sub ⟨rfl,rfl,rfl,rfl,rfl,trivial⟩)
   | cons x F =>
    refine gen_tail (n:=F.length + 1 + 1) u_sl3 i_f3 sz_f3 rfl J3.1 (by omega) ?_
    try simp -implicitDefEqProofs (disch:=first|decide|exact of_eq_true (eq_true rfl)|omega|assumption) only [↓vcD,vcE,↓vcG,vcF,evs,evP,evB,intsOf,fillC,Value.cells,pt,Value.oneCell',reduceIte,reduceCtorEq,Nat.reduceEqDiff,Nat.reduceAdd,Nat.reduceMul,Nat.reduceLT,Nat.reduceBEq,Nat.reduceLeDiff,Nat.reduceSub]
    generalize hT' : [some (AObj.cells ⟨rows eB ys,1,true⟩),_,_] = T
    obtain ⟨q1,q2,q3⟩:=hJ (M++T) cvM_app (by rw [List.length_append]; omega)
    refine LoopQ.next ⟨nx,true,x :: F,L,kf,of + 3,cf + 1,kl,ol,cl,M++T⟩ ⟨h,hx,(J3.tail).mono cvM_app,q3,q1,q2⟩ (by show n - nx < n - a; omega) (Wk.sub ⟨rfl,rfl,rfl,rfl,rfl,trivial⟩)
  | lost h1 h3 hf h =>
   rename_i hi L
   obtain ⟨cs,sz,op,g1,g2⟩:=J4.get
   have g20:cs[ol + Int.toNat 0 * 2]? = some (.int .i64 a):=g2 0 (by decide)
   have g21:cs[ol + Int.toNat 0 * 2 + 1]? = some (.int .i64 hi):=g2 1 (by decide)
   have hl0:(0:Int) < ((L.length + 1:Nat):Int):=by omega
   have hl1:(a:Int)≤hi:=by omega
   have hl2:(hi:Int) < n:=by omega
   have hl3:(hi:Int) + 1 = ((hi + 1:Nat):Int):=by omega
   have key:ITri Tryd.prog 112 none 4 ir47_11 (frC n c ⟨a,true,F,(((a:Int),(hi:Int)) :: L),kf,of,cf,kl,ol,cl,M⟩++[(16,.bool false)]) [] (Hp 4 M) (BlkQ 2 (BlkQ 1 (LoopQ 112 4 none (frC n c) (fun _=>[]) (fun s=>Hp 4 s.M) (CJ ys) (fun s=>n - s.a) ⟨a,true,F,(((a:Int),(hi:Int)) :: L),kf,of,cf,kl,ol,cl,M⟩ (BlkQ 0 (SeqQ Tryd.prog 112 none 4 ir47_18 (EndR Tryd.prog [.tmp 6] 4 [] (.bool true))))))):=by
    simp only [List.cons_append,List.nil_append,List.length_cons]
    refine ITri.cond (v:=false) rfl (fun h=>by cases h) (fun _=>?_)
    refine ITri.seq ?_
    refine ITri.reg pok ?_; simp -implicitDefEqProofs (disch:=first|decide|exact of_eq_true (eq_true rfl)|omega|assumption) only [hl0,g1,g20,g21,hl1,hl2,decide_true, ↓vcD,vcE,↓vcG,vcF,evs,evP,evB,intsOf,fillC,Value.cells,pt,Value.oneCell',reduceIte,reduceCtorEq,Nat.reduceEqDiff,Nat.reduceAdd,Nat.reduceMul,Nat.reduceLT,Nat.reduceBEq,Nat.reduceLeDiff,Nat.reduceSub]
    refine ITri.cond (v:=true) rfl (fun _=>?_) (fun h=>by cases h)
    have m2 : ∀ (T:List (Option AObj)),(M++T)[1]? = some (srB ys)∧4≤(M++T).length∧Lft eF3 3 (M++T) kf of cf F:=fun T=>⟨low_get J5,by rw [List.length_append]; omega,J3.mono cvM_app⟩
    refine ITri.draw pok ?_; simp -implicitDefEqProofs (disch:=first|decide|exact of_eq_true (eq_true rfl)|omega|assumption) only [g1,g21,hl3, ↓vcD,vcE,↓vcG,vcF,evs,evP,evB,intsOf,fillC,Value.cells,pt,Value.oneCell',reduceIte,reduceCtorEq,Nat.reduceEqDiff,Nat.reduceAdd,Nat.reduceMul,Nat.reduceLT,Nat.reduceBEq,Nat.reduceLeDiff,Nat.reduceSub]
    cases L with
    | nil =>
     refine gen_tail1 u_sl2 i_r2 rfl J4.1 ?_
     try simp -implicitDefEqProofs (disch:=first|decide|exact of_eq_true (eq_true rfl)|omega|assumption) only [↓vcD,vcE,↓vcG,vcF,evs,evP,evB,intsOf,fillC,Value.cells,pt,Value.oneCell',reduceIte,reduceCtorEq,Nat.reduceEqDiff,Nat.reduceAdd,Nat.reduceMul,Nat.reduceLT,Nat.reduceBEq,Nat.reduceLeDiff,Nat.reduceSub]
     rw [Hq_bump]
     obtain ⟨q1,q2,q3⟩:=m2 [none]
     refine LoopQ.next ⟨hi + 1,false,F,[],kf,of,cf,_,0,openB,M++[none]⟩ ⟨h,by show hi + 1≤_; omega,q3,Lft.nil,q1,q2⟩ (by show n - (hi + 1) < n - a; omega) (Wk.sub ⟨rfl,rfl,rfl,rfl,rfl,trivial⟩)
    | cons x L =>
     refine gen_tail (n:=L.length + 1 + 1) u_sl2 i_r2 sz_r2 rfl J4.1 (by omega) ?_
     try simp -implicitDefEqProofs (disch:=first|decide|exact of_eq_true (eq_true rfl)|omega|assumption) only [↓vcD,vcE,↓vcG,vcF,evs,evP,evB,intsOf,fillC,Value.cells,pt,Value.oneCell',reduceIte,reduceCtorEq,Nat.reduceEqDiff,Nat.reduceAdd,Nat.reduceMul,Nat.reduceLT,Nat.reduceBEq,Nat.reduceLeDiff,Nat.reduceSub]
     refine LoopQ.next ⟨hi + 1,false,F,x :: L,kf,of,cf,kl,ol + 2,cl + 1,M⟩ ⟨h,by show hi + 1≤_; omega,J3,J4.tail,J5,J6⟩ (by show n - (hi + 1) < n - a; omega) (Wk.sub ⟨rfl,rfl,rfl,rfl,rfl,trivial⟩)
   simp only [List.length_cons] at key ⊢
   cases F with
   | nil =>
    have h0 : ¬ (0:Int) < 0:=by omega
    simp only [List.length_nil]
    refine ITri.reg pok ?_; simp -implicitDefEqProofs (disch:=first|decide|exact of_eq_true (eq_true rfl)|omega|assumption) only [h0,Int.natCast_zero,decide_false, ↓vcD,vcE,↓vcG,vcF,evs,evP,evB,intsOf,fillC,Value.cells,pt,Value.oneCell',reduceIte,reduceCtorEq,Nat.reduceEqDiff,Nat.reduceAdd,Nat.reduceMul,Nat.reduceLT,Nat.reduceBEq,Nat.reduceLeDiff,Nat.reduceSub]
    exact key
   | cons x F =>
    obtain ⟨cs',sz',op',g1',g2'⟩:=J3.get
    have g20' : cs'[of + Int.toNat 0 * 3]? = some (.int .i64 x.1):=g2' 0 (by decide)
    have hx:=hf x rfl
    have hF0:(0:Int) < ((F.length + 1:Nat):Int):=by omega
    simp only [List.length_cons]
    refine ITri.reg pok ?_; simp -implicitDefEqProofs (disch:=first|decide|exact of_eq_true (eq_true rfl)|omega|assumption) only [hF0,g1',g20',hx,decide_true,decide_false, ↓vcD,vcE,↓vcG,vcF,evs,evP,evB,intsOf,fillC,Value.cells,pt,Value.oneCell',reduceIte,reduceCtorEq,Nat.reduceEqDiff,Nat.reduceAdd,Nat.reduceMul,Nat.reduceLT,Nat.reduceBEq,Nat.reduceLeDiff,Nat.reduceSub]
    exact key
 refine ITri.exit ?_; try simp -implicitDefEqProofs (disch:=first|decide|exact of_eq_true (eq_true rfl)|omega|assumption) only [↓vcD,vcE,↓vcG,vcF,evs,evP,evB,intsOf,fillC,Value.cells,pt,Value.oneCell',reduceIte,reduceCtorEq,Nat.reduceEqDiff,Nat.reduceAdd,Nat.reduceMul,Nat.reduceLT,Nat.reduceBEq,Nat.reduceLeDiff,Nat.reduceSub]
 refine ITri.seq ?_
 cases J1 with
 | done b =>
  simp only [List.length_nil]
  refine ITri.reg pok ?_; simp -implicitDefEqProofs (disch:=first|decide|exact of_eq_true (eq_true rfl)|omega|assumption) only [Int.natCast_zero,decide_true, ↓vcD,vcE,↓vcG,vcF,evs,evP,evB,intsOf,fillC,Value.cells,pt,Value.oneCell',reduceIte,reduceCtorEq,Nat.reduceEqDiff,Nat.reduceAdd,Nat.reduceMul,Nat.reduceLT,Nat.reduceBEq,Nat.reduceLeDiff,Nat.reduceSub]
  refine ITri.ret ?_
  exact EndR.plain (by simp) (by rfl) (by rfl) (by rfl)
 | found hg hl hx h=>omega
 | lost k1 k2 hf h=>omega
theorem covers_f {n c k sz k2 sz2 k3 sz3 : Nat} {op op2 op3 : Bool} {ys : List Int} {fs : List (Int × Int × Int)} {ls : List (Int × Int)} {h : AH} (hn : ys.length = n) (hB : isB ys) (hb : n ≤ 30000) (hc : Cov ys 0 true fs ls) (hs : h.sees 0 = true) (hg : h.get k = some (.cells ⟨rows eB ys, sz, op⟩)) (hg2 : h.get k2 = some (.cells ⟨rows eF3 fs, sz2, op2⟩)) (hg3 : h.get k3 = some (.cells ⟨rows eR2 ls, sz3, op3⟩)) :
    Fc Tryd.prog 47 [.slice (some ⟨k,0,none⟩) n c,.slice (some ⟨k2,0,none⟩) fs.length openB,.slice (some ⟨k3,0,none⟩) ls.length openB] h (.bool true) h :=
 Fc.liftP (cs:=[(n,rows eB ys),(fs.length,rows eF3 fs),(ls.length,rows eR2 ls)]) (caps:=[c,openB,openB]) (os:=[]) (ps:=[(k,0,false),(k2,0,false),(k3,0,false)]) (mk:=fun ss=>ss++[]) (mkv:=fun ss=>.bool true) (covers_c n c ys fs ls hn hB hb hc) (MkL.app rfl) (MkV.const rfl) (fun p hp=>by
  simp only [List.mem_cons,List.not_mem_nil,or_false] at hp
  rcases hp with rfl|rfl|rfl
  ·exact rows_no (f:=eB) _
  ·exact rows_no (f:=eF3) _
  ·exact rows_no (f:=eR2) _) (fun o ho=>by cases ho) hs ⟨⟨get_sees hg,⟨_,hg,⟨[],by simp⟩,fun _=>Nat.zero_le _⟩⟩,⟨(fun e=>by cases e),⟨⟨get_sees hg2,⟨_,hg2,⟨[],by simp⟩,fun _=>Nat.zero_le _⟩⟩,⟨(fun e=>by cases e),⟨⟨get_sees hg3,⟨_,hg3,⟨[],by simp⟩,fun _=>Nat.zero_le _⟩⟩,⟨(fun e=>by cases e),trivial⟩⟩⟩⟩⟩⟩
end Go.Proofs.YtgjokhodccacoaaDoor
