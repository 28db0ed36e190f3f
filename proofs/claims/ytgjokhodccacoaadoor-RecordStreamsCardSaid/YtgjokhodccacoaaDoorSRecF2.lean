import Derived.Test.YtgjokhodccacoaaDoorSRecY2
import Derived.Test.YtgjokhodccacoaaDoorSRecS3
import Derived.Test.YtgjokhodccacoaaDoorSRecN3
set_option linter.unusedSimpArgs false
set_option linter.unusedVariables false
namespace Go.Proofs.YtgjokhodccacoaaDoor
open Go.RowKit Go.Vm
set_option maxRecDepth 100000
theorem nth_drop' {xs:List Int} {o j:Nat}:nth (xs.drop o) j = nth xs (o + j):=by
 unfold nth
 rw [List.getD_eq_getElem?_getD,List.getD_eq_getElem?_getD,List.getElem?_drop]
theorem numG_drop {xs : List Int} {most : Int} {a b : Nat} (ha : a ≤ xs.length) : ∀ k i, numG xs most (a + b) k i = (match numG (xs.drop a) most b k i with
    | .ok v nx=>.ok v (a + nx)
    | .err e nx=>.err e (a + nx))
 | 0,i=>by rw [numG,numG]; simp only [Nat.add_assoc]
 | k + 1,i=>by
  have hn:nG xs (a + b) (i + 1) = nG (xs.drop a) b (i + 1):=nG_congr _ fun j hj=>by rw [nth_drop',Nat.add_assoc]
  have e0:nth xs (a + b) = nth (xs.drop a) b:=by rw [nth_drop']
  have e1:nth xs (a + b + i) = nth (xs.drop a) (b + i):=by rw [nth_drop',Nat.add_assoc]
  have hl:(xs.drop a).length = xs.length - a:=List.length_drop
  have ih:=numG_drop (xs:=xs) (most:=most) (a:=a) (b:=b) ha k (i + 1)
  rw [numG,numG,hn,e0,e1]
  by_cases h1:xs.length≤a + b + i
  ·have h1' : (xs.drop a).length≤b + i:=by omega
   simp only [if_pos h1,if_pos h1']
   simp only [Nat.add_assoc]
  ·have h1' : ¬ (xs.drop a).length≤b + i:=by omega
   simp only [if_neg h1,if_neg h1']
   by_cases h2:i = 0∧nth (xs.drop a) b = 128
   ·simp only [if_pos h2]
    simp only [Nat.add_assoc]
   ·simp only [if_neg h2]
    by_cases h3:nth (xs.drop a) (b + i) < 128
    ·simp only [if_pos h3]
     by_cases h4:most < nG (xs.drop a) b (i + 1)
     ·simp only [if_pos h4]
      simp only [Nat.add_assoc]
     ·simp only [if_neg h4]
      simp only [Nat.add_assoc]
    ·simp only [if_neg h3]
     exact ih
theorem sub_drop {xs:List Int} {a b m:Nat}:sub xs (a + b) m = sub (xs.drop a) b m:=by
 unfold sub
 rw [List.drop_drop]
theorem frF_drop {xs : List Int} {a : Nat} (ha : a ≤ xs.length) : frF xs a = match frF (xs.drop a) 0 with
    | .ok kd p m nx=>.ok kd (a + p) m (a + nx)
    | .err e nx=>.err e (a + nx):=by
 have hl:(xs.drop a).length = xs.length - a:=List.length_drop
 have e0:nth (xs.drop a) 0 = nth xs a:=by rw [nth_drop',Nat.add_zero]
 unfold frF
 by_cases h1:xs.length≤a
 ·have h1' : (xs.drop a).length≤0:=by omega
  rw [if_pos h1,if_pos h1']
  rfl
 ·have h1' : ¬ (xs.drop a).length≤0:=by omega
  rw [if_neg h1,if_neg h1',e0]
  by_cases h2:nth xs a < 1∨250 < nth xs a
  ·simp only [if_pos h2]
  ·simp only [if_neg h2]
   rw [Nat.zero_add,numG_drop ha 9 0]
   cases hr:numG (xs.drop a) 1000000000000000 1 9 0 with
   | err e nx=>rfl
   | ok v nx =>
    have hv:=numG_bd (xs:=xs.drop a) (at_:=1) 9 0 (by omega) hr
    simp only
    by_cases h3:10000 < v
    ·simp only [if_pos h3]
    ·simp only [if_neg h3]
     by_cases h4:((xs.drop a).length:Int) < nx + v + 2
     ·have h4' : (xs.length:Int) < ((a + nx:Nat):Int) + v + 2:=by omega
      rw [if_pos h4',if_pos h4]
     ·have h4' : ¬ (xs.length:Int) < ((a + nx:Nat):Int) + v + 2:=by omega
      rw [if_neg h4',if_neg h4]
      have e1:sub xs a (a + nx + v.toNat - a) = sub (xs.drop a) 0 (nx + v.toNat - 0):=by
       rw [show a + nx + v.toNat - a = nx + v.toNat - 0 by omega]
       exact sub_drop (b:=0)
      have e2:nth xs (a + nx + v.toNat) = nth (xs.drop a) (nx + v.toNat):=by rw [nth_drop',Nat.add_assoc]
      have e3:nth xs (a + nx + v.toNat + 1) = nth (xs.drop a) (nx + v.toNat + 1):=by rw [nth_drop',Nat.add_assoc,Nat.add_assoc,Nat.add_assoc]
      rw [e1,e2,e3]
      by_cases h5:(crc (sub (xs.drop a) 0 (nx + v.toNat - 0)):Int)≠nth (xs.drop a) (nx + v.toNat) * 256 + nth (xs.drop a) (nx + v.toNat + 1)
      ·simp only [if_pos h5]
       simp only [Nat.add_assoc]
      ·simp only [if_neg h5]
       simp only [Nat.add_assoc]
def catF (vs:List (Nat×List Int)):List Int:=vs.flatMap fun v=>frB v.1 v.2
inductive Cov (ys:List Int):Nat→Bool→List (Int×Int×Int)→List (Int×Int)→Prop
 | done (b:Bool):Cov ys ys.length b [] []
 | found {a nx:Nat} {b:Bool} {kd:Int} {pay:List Int} {F:List (Int×Int×Int)} {L:List (Int×Int)} (hg:getR ys a = (kd,pay,(nx:Int),0)) (hl:a < nx) (hn:nx≤ys.length) (h:Cov ys nx true F L):Cov ys a b (((a:Int),(nx:Int) - a,kd) :: F) L
 | lost {a hi:Nat} {F:List (Int×Int×Int)} {L:List (Int×Int)} (h1:a≤hi) (h2:hi < ys.length) (hf : ∀ x,F.head? = some x→x.1≠a) (h:Cov ys (hi + 1) false F L):Cov ys a true F (((a:Int),(hi:Int)) :: L)
end Go.Proofs.YtgjokhodccacoaaDoor
set_option linter.unusedSimpArgs false
set_option linter.unusedVariables false
namespace Go.Vm
open Go Go.RowKit
section
variable {P:Program} {w:Bool} {t el:TypeId} {f:TypeInfo} {s k n c sz o:Nat} {l:Fr} {h:AH} {K:Value→AH→Prop}
end
end Go.Vm
namespace Go.Proofs.YtgjokhodccacoaaDoor
open Go.RowKit Go.Vm
set_option maxRecDepth 100000
def Lft {α:Type} (f:α→List Value) (w:Nat) (M:List (Option AObj)) (k o c:Nat) (F:List α):Prop:=openB≤c∧(F≠[]→∃ (pre:List α) (sz:Nat) (op:Bool),M[k]? = some (some (.cells ⟨rows f (pre++F),sz,op⟩))∧o = pre.length * w)
theorem Lft.get {α:Type} [Inhabited α] {f:α→List Value} {w:Nat} [FlatE f w] {M:List (Option AObj)} {k o c:Nat} {x:α} {F:List α} (h:Lft f w M k o c (x :: F)) : ∃ cs sz op,M[k]? = some (some (.cells ⟨cs,sz,op⟩))∧∀ j,j < w→cs[o + j]? = (f x)[j]?:=by
 obtain ⟨_,h2⟩:=h
 obtain ⟨pre,sz,op,h3,rfl⟩:=h2 (by simp)
 refine ⟨_,sz,op,h3,fun j hj=>?_⟩
 have hn:nth (pre++x :: F) pre.length = x:=nth_of (by simp)
 have:=rows_get (f:=f) (xs:=pre++x :: F) (i:=pre.length) (j:=j) (by simp) hj
 rw [hn] at this
 exact this
theorem Lft.mono {α:Type} {f:α→List Value} {w:Nat} {M M' : List (Option AObj)} {k o c:Nat} {F:List α} (h:Lft f w M k o c F) (hm : ∀ (k:Nat) (o:AObj),M[k]? = some (some o)→M'[k]? = some (some o)):Lft f w M' k o c F:=by
 obtain ⟨h1,h2⟩:=h
 exact ⟨h1,fun e=>by
  obtain ⟨pre,sz,op,h3,h4⟩:=h2 e
  exact ⟨pre,sz,op,hm _ _ h3,h4⟩⟩
theorem Lft.nil {α:Type} {f:α→List Value} {w:Nat} {M:List (Option AObj)} {k:Nat}:Lft f w M k 0 openB ([]:List α):=⟨Nat.le_refl _,fun h=>absurd rfl h⟩
structure CS where
 a:Nat
 b:Bool
 F:List (Int×Int×Int)
 L:List (Int×Int)
 kf:Nat
 of:Nat
 cf:Nat
 kl:Nat
 ol:Nat
 cl:Nat
 M:List (Option AObj)
end Go.Proofs.YtgjokhodccacoaaDoor
