import Derived.Test.YtgjokhodccacoaaDoorSMe
import Derived.Test.YtgjokhodccacoaaDoorSRecY4
import Derived.Deep.SlicePairs
set_option linter.unusedSimpArgs false
set_option linter.unusedVariables false
namespace Go.Proofs.YtgjokhodccacoaaDoor
open Go.RowKit Go.Vm Go.Deep Go.ChangeShapes Go.WideShapes
theorem Row.entA {w : World} {A : Option Addr} {n cap : Nat} {csW : List Value} (r : Row w A n cap csW) :
    ∃ p K,∀ (φ:Nat→Nat×Nat) (κ:Nat→Nat) (N:Nat→Prop) (k:Nat) (csA:List Value),φ k = p→κ k = K→N k→csW = csA.map (Vm.ren φ κ)→(∀ v∈csA,okV N κ v)→entOK φ κ N w k (.cells ⟨csA,0,false⟩)∧Vm.ren φ κ (.slice (some ⟨k,0,none⟩) n cap) = .slice A n cap∧okV N κ (.slice (some ⟨k,0,none⟩) n cap):=by
 have hcap:cap < openB:=by have:=r.small; unfold maxLen at this; unfold openB; omega
 by_cases h0:cap = 0
 ·obtain ⟨rfl,rfl⟩:=r.zero h0
  subst h0
  obtain ⟨m,hm⟩:=dec_sur A
  refine ⟨(m,0),0,fun φ κ N k csA e1 e2 hk hc ho=>⟨⟨fun _=>?_,fun hz=>absurd e2 hz⟩,?_,?_⟩⟩
  ·exact List.map_eq_nil_iff.1 hc.symm
  ·simp only [Vm.ren,e1,e2,if_true,hm]
  ·simp only [okV,e2]
   exact ⟨hk,fun _=>⟨trivial,fun _=>trivial⟩,fun h=>by omega⟩
 ·obtain ⟨b,off,c,el,fz,rfl,h1,h2,h3⟩:=r.row h0
  refine ⟨(b,off),1,fun φ κ N k csA e1 e2 hk hc ho=>⟨⟨fun hz=>(by rw [e2] at hz; cases hz),fun _=>⟨c,el,fz,by rw [e1]; exact h1,fun hz=>absurd rfl hz,?_,fun j v hj=>?_,ho,fun hz=>(by cases hz)⟩⟩,?_,?_⟩⟩
  ·rw [e1]
   rw [hc,List.length_map] at h2
   exact h2
  ·rw [e1]
   refine h3 j _ ?_
   have hj' : csA[j]? = some v:=hj
   rw [hc,List.getElem?_map,hj']
   rfl
  ·simp only [Vm.ren,e1,e2,hcap,if_true,Nat.add_zero,if_neg (Nat.succ_ne_zero 0)]
  ·simp only [okV,e2]
   exact ⟨hk,fun h=>(by cases h),fun h=>by omega⟩
theorem nest_entry {w : World} (ht : Tab w) (rs : List (Option Addr × Nat × Nat × List Value)) (h : ∀ r ∈ rs, Row w r.1 r.2.1 r.2.2.1 r.2.2.2 ∧ ∀ v ∈ r.2.2.2, noAddr v = true) {A : Option Addr} {n c : Nat} {csW csA : List Value} (hr : Row w A n c csW)
    (hcs : ∀ (φ:Nat→Nat×Nat) (κ:Nat→Nat) (N:Nat→Prop),(∀ i r,rs[i]? = some r→Vm.ren φ κ (.slice (some ⟨i + 1,0,none⟩) r.2.1 r.2.2.1) = .slice r.1 r.2.1 r.2.2.1∧okV N κ (.slice (some ⟨i + 1,0,none⟩) r.2.1 r.2.2.1))→csW = csA.map (Vm.ren φ κ)∧∀ v∈csA,okV N κ v) :
    ∃ φ κ,Rel w φ κ (Hp (rs.length + 2) ((none :: rs.map fun r=>some (.cells ⟨r.2.2.2,0,false⟩))++[some (.cells ⟨csA,0,false⟩)])) w ∧
     Vm.ren φ κ (.slice (some ⟨rs.length + 1,0,none⟩) n c) = .slice A n c∧okV (Hp (rs.length + 2) ((none :: rs.map fun r=>some (.cells ⟨r.2.2.2,0,false⟩))++[some (.cells ⟨csA,0,false⟩)])).N κ (.slice (some ⟨rs.length + 1,0,none⟩) n c):=by
 have key : ∀ r:Option Addr×Nat×Nat×List Value,∃ p:(Nat×Nat)×Nat,r∈rs→∀ (φ:Nat→Nat×Nat) (κ:Nat→Nat) (N:Nat→Prop) (k:Nat),φ k = p.1→κ k = p.2→N k→entOK φ κ N w k (.cells ⟨r.2.2.2,0,false⟩)∧Vm.ren φ κ (.slice (some ⟨k,0,none⟩) r.2.1 r.2.2.1) = .slice r.1 r.2.1 r.2.2.1∧okV N κ (.slice (some ⟨k,0,none⟩) r.2.1 r.2.2.1):=by
  intro r
  by_cases hr:r∈rs
  ·obtain ⟨p,K,hp⟩:=(h r hr).1.ent (h r hr).2
   exact ⟨(p,K),fun _=>hp⟩
  ·exact ⟨((0,0),0),fun h=>absurd h hr⟩
 obtain ⟨g,hg⟩:=Classical.axiomOfChoice key
 obtain ⟨p,K,hp⟩:=Row.entA hr
 let φ:Nat→Nat×Nat:=fun k=>if k = rs.length + 1 then p else match rs[k - 1]? with|some r=>(g r).1|none=>(0,0)
 let κ:Nat→Nat:=fun k=>if k = rs.length + 1 then K else match rs[k - 1]? with|some r=>(g r).2|none=>0
 have e1 : ∀ i r,rs[i]? = some r→φ (i + 1) = (g r).1∧κ (i + 1) = (g r).2:=fun i r hi=>by
  have hlt:=(List.getElem?_eq_some_iff.1 hi).1
  have hne : ¬ (i + 1 = rs.length + 1):=by omega
  simp only [φ,κ,Nat.add_sub_cancel,hi,if_neg hne,and_self]
 have e2:φ (rs.length + 1) = p∧κ (rs.length + 1) = K:=⟨if_pos rfl,if_pos rfl⟩
 have hlen:((none :: rs.map fun r=>some (AObj.cells ⟨r.2.2.2,0,false⟩))++[some (AObj.cells ⟨csA,0,false⟩)]).length = rs.length + 2:=by simp
 have hN : ∀ i,i < rs.length + 1→(Hp (rs.length + 2) ((none :: rs.map fun r=>some (.cells ⟨r.2.2.2,0,false⟩))++[some (.cells ⟨csA,0,false⟩)])).N (i + 1):=fun i hi=>by
  show AH.sees _ _ = true
  rw [Hq_sees,hlen]
  simpa using hi
 have args : ∀ i r,rs[i]? = some r→Vm.ren φ κ (.slice (some ⟨i + 1,0,none⟩) r.2.1 r.2.2.1) = .slice r.1 r.2.1 r.2.2.1∧okV (Hp (rs.length + 2) ((none :: rs.map fun r=>some (.cells ⟨r.2.2.2,0,false⟩))++[some (.cells ⟨csA,0,false⟩)])).N κ (.slice (some ⟨i + 1,0,none⟩) r.2.1 r.2.2.1):=fun i r hi =>
  (hg r (List.mem_of_getElem? hi) φ κ _ (i + 1) (e1 i r hi).1 (e1 i r hi).2 (hN i (by have:=(List.getElem?_eq_some_iff.1 hi).1; omega))).2
 obtain ⟨c1,c2⟩:=hcs φ κ _ args
 have last:=hp φ κ _ (rs.length + 1) csA e2.1 e2.2 (hN rs.length (by omega)) c1 c2
 refine ⟨φ,κ,?_,last.2⟩
 have : ∀ k o,(((none :: rs.map fun r=>some (AObj.cells ⟨r.2.2.2,0,false⟩))++[some (AObj.cells ⟨csA,0,false⟩)])[k]?).join = some o→entOK φ κ (Hp (rs.length + 2) ((none :: rs.map fun r=>some (.cells ⟨r.2.2.2,0,false⟩))++[some (.cells ⟨csA,0,false⟩)])).N w k o:=by
  intro k o hk
  cases k with
  | zero=>simp at hk
  | succ i =>
   rw [List.cons_append,List.getElem?_cons_succ,List.getElem?_append] at hk
   split at hk
   ·rw [List.getElem?_map] at hk
    cases hi:rs[i]? with
    | none=>rw [hi] at hk; cases hk
    | some r =>
     rw [hi] at hk
     simp only [Option.map_some,Option.join_some,Option.some.injEq] at hk
     subst hk
     exact (hg r (List.mem_of_getElem? hi) φ κ _ (i + 1) (e1 i r hi).1 (e1 i r hi).2 (hN i (by have:=(List.getElem?_eq_some_iff.1 hi).1; omega))).1
   ·rename_i hi
    rw [List.length_map] at hi hk
    by_cases hi0:i - rs.length = 0
    ·rw [hi0] at hk
     have hk' : some (AObj.cells ⟨csA,0,false⟩) = some o:=hk
     injection hk' with hk'
     subst hk'
     rw [show i = rs.length by omega]
     exact last.1
    ·rw [List.getElem?_eq_none (by show 1≤i - rs.length; omega)] at hk
     cases hk
 rw [← hlen] at this ⊢
 exact rel_entry ht this
theorem Row.of_cells {w:World} {a:Addr} {n cap:Nat} {cs:List Value} (hm:cap≤maxLen) (h0:cap≠0) (hex : ∃ u,w.cell? (a.add 0) = some u) (hc : ∀ j u,cs[j]? = some u→w.cell? (a.add j) = some u):Row w (some a) n cap cs:=by
 refine ⟨hm,fun h=>absurd h h0,fun _=>?_⟩
 obtain ⟨u,hu⟩:=hex
 obtain ⟨ce,el,fz,e1,e2,e3⟩:=cell_some hu
 obtain ⟨b,off,s⟩:=a
 have hs:s = none:=by simpa [Addr.add] using e2
 subst hs
 have hadd : ∀ j,(⟨b,off,none⟩ : Addr).add j = ⟨b,off + j,none⟩:=fun j=>by
  unfold Addr.add
  split
  ·rename_i hz; rw [hz,Nat.add_zero]
  ·rfl
 rw [hadd] at e1 e3
 simp only at e1 e3
 have hget : ∀ j u,cs[j]? = some u→ce[off + j]? = some u:=fun j u hj=>by
  have:=hc j u hj
  rw [hadd] at this
  obtain ⟨ce',el',fz',g1,_,g3⟩:=cell_some this
  simp only at g1 g3
  rw [e1] at g1
  injection g1 with g1
  injection g1 with g1
  subst g1
  exact g3
 refine ⟨b,off,ce,el,fz,rfl,e1,?_,hget⟩
 rcases Nat.eq_zero_or_pos cs.length with hz|hz
 ·rw [hz]; have:=(Array.getElem?_eq_some_iff.1 e3).1; omega
 ·have:=hget (cs.length - 1) _ (List.getElem?_eq_getElem (by omega))
  have:=(Array.getElem?_eq_some_iff.1 this).1
  omega
end Go.Proofs.YtgjokhodccacoaaDoor
set_option linter.unusedSimpArgs false
set_option linter.unusedVariables false
namespace Go.Proofs.YtgjokhodccacoaaDoor
open Go.RowKit Go.Vm Go.Deep Go.ChangeShapes Go.WideShapes
set_option maxRecDepth 100000
abbrev PF:=Int×List Int×Nat
structure Fw where
 kind:Int
 B:Option Addr
 m:Nat
 d:Nat
 xs:List Int
structure FwOK (w:World) (f:Fw):Prop where
 row:Row w f.B f.m f.d (rows eB f.xs)
 len:f.xs.length = f.m
 cap:f.m≤f.d
 isb:isB f.xs
 kd : -9223372036854775808≤f.kind∧f.kind≤9223372036854775807
end Go.Proofs.YtgjokhodccacoaaDoor
