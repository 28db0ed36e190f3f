import Derived.Test.YtgjokhodccacoaaDoorSMe
import Derived.Test.YtgjokhodccacoaaDoorSRecY4
import Derived.Deep.SlicePairs
set_option linter.unusedSimpArgs false
set_option linter.unusedVariables false
namespace Go.Proofs.YtgjokhodccacoaaDoor
open Go.RowKit Go.Vm Go.Deep Go.ChangeShapes Go.WideShapes
theorem Row.entA {w : World} {A : Option Addr} {n cap : Nat} {csW : List Value} (r : Row w A n cap csW) :
    ∃ p K,∀ (φ:Nat→Nat×Nat) (κ:Nat→Nat) (N:Nat→Prop) (k:Nat) (csA:List Value),φ k = p→κ k = K→N k→csW = csA.map (Vm.ren φ κ)→(∀ v∈csA,okV N κ v)→entOK φ κ N w k (.cells ⟨csA,0,false⟩)∧Vm.ren φ κ (.slice (some ⟨k,0,none⟩) n cap) = .slice A n cap∧okV N κ (.slice (some ⟨k,0,none⟩) n cap):=by
 have hcap:cap < openB:=by have:=r.small; unfold maxLen at this; unfold openB; omega
 by_cases h0:cap = 0
 ·obtain ⟨rfl,rfl⟩:=r.zero h0
  subst h0
  obtain ⟨m,hm⟩:=dec_sur A
  refine ⟨(m,0),0,fun φ κ N k csA e1 e2 hk hc ho=>⟨⟨fun _=>?_,fun hz=>absurd e2 hz⟩,?_,?_⟩⟩
  ·exact List.map_eq_nil_iff.1 hc.symm
  ·simp only [Vm.ren,e1,e2,if_true,hm]
  ·simp only [okV,e2]
   exact ⟨hk,fun _=>⟨trivial,fun _=>trivial⟩,fun h=>by omega⟩
 ·obtain ⟨b,off,c,el,fz,rfl,h1,h2,h3⟩:=r.row h0
  refine ⟨(b,off),1,fun φ κ N k csA e1 e2 hk hc ho=>⟨⟨fun hz=>(by rw [e2] at hz; cases hz),fun _=>⟨c,el,fz,by rw [e1]; exact h1,fun hz=>absurd rfl hz,?_,fun j v hj=>?_,ho,fun hz=>(by cases hz)⟩⟩,?_,?_⟩⟩
  ·rw [e1]
   rw [hc,List.length_map] at h2
   exact h2
  ·rw [e1]
   refine h3 j _ ?_
   have hj' : csA[j]? = some v:=hj
   rw [hc,List.getElem?_map,hj']
   rfl
  ·simp only [Vm.ren,e1,e2,hcap,if_true,Nat.add_zero,if_neg (Nat.succ_ne_zero 0)]
  ·simp only [okV,e2]
   exact ⟨hk,fun h=>(by cases h),fun h=>by omega⟩
theorem nest_entry {w : World} (ht : Tab w) (rs : List (Option Addr × Nat × Nat × List Value)) (h : ∀ r ∈ rs, Row w r.1 r.2.1 r.2.2.1 r.2.2.2 ∧ ∀ v ∈ r.2.2.2, noAddr v = true) {A : Option Addr} {n c : Nat} {csW csA : List Value} (hr : Row w A n c csW)
    (hcs : ∀ (φ:Nat→Nat×Nat) (κ:Nat→Nat) (N:Nat→Prop),(∀ i r,rs[i]? = some r→Vm.ren φ κ (.slice (some ⟨i + 1,0,none⟩) r.2.1 r.2.2.1) = .slice r.1 r.2.1 r.2.2.1∧okV N κ (.slice (some ⟨i + 1,0,none⟩) r.2.1 r.2.2.1))→csW = csA.map (Vm.ren φ κ)∧∀ v∈csA,okV N κ v) :
    ∃ φ κ,Rel w φ κ (Hp (rs.length + 2) ((none :: rs.map fun r=>some (.cells ⟨r.2.2.2,0,false⟩))++[some (.cells ⟨csA,0,false⟩)])) w ∧
     Vm.ren φ κ (.slice (some ⟨rs.length + 1,0,none⟩) n c) = .slice A n c∧okV (Hp (rs.length + 2) ((none :: rs.map fun r=>some (.cells ⟨r.2.2.2,0,false⟩))++[some (.cells ⟨csA,0,false⟩)])).N κ (.slice (some ⟨rs.length + 1,0,none⟩) n c):=by
 have key : ∀ r:Option Addr×Nat×Nat×List Value,∃ p:(Nat×Nat)×Nat,r∈rs→∀ (φ:Nat→Nat×Nat) (κ:Nat→Nat) (N:Nat→Prop) (k:Nat),φ k = p.1→κ k = p.2→N k→entOK φ κ N w k (.cells ⟨r.2.2.2,0,false⟩)∧Vm.ren φ κ (.slice (some ⟨k,0,none⟩) r.2.1 r.2.2.1) = .slice r.1 r.2.1 r.2.2.1∧okV N κ (.slice (some ⟨k,0,none⟩) r.2.1 r.2.2.1):=by
  intro r
  by_cases hr:r∈rs
  ·obtain ⟨p,K,hp⟩:=(h r hr).1.ent (h r hr).2
   exact ⟨(p,K),fun _=>hp⟩
  ·exact ⟨((0,0),0),fun h=>absurd h hr⟩
 obtain ⟨g,hg⟩:=Classical.axiomOfChoice key
 obtain ⟨p,K,hp⟩:=Row.entA hr
 let φ:Nat→Nat×Nat:=fun k=>if k = rs.length + 1 then p else match rs[k - 1]? with|some r=>(g r).1|none=>(0,0)
 let κ:Nat→Nat:=fun k=>if k = rs.length + 1 then K else match rs[k - 1]? with|some r=>(g r).2|none=>0
 have e1 : ∀ i r,rs[i]? = some r→φ (i + 1) = (g r).1∧κ (i + 1) = (g r).2:=fun i r hi=>by
  have hlt:=(List.getElem?_eq_some_iff.1 hi).1
  have hne : ¬ (i + 1 = rs.length + 1):=by omega
  simp only [φ,κ,Nat.add_sub_cancel,hi,if_neg hne,and_self]
 have e2:φ (rs.length + 1) = p∧κ (rs.length + 1) = K:=⟨if_pos rfl,if_pos rfl⟩
 have hlen:((none :: rs.map fun r=>some (AObj.cells ⟨r.2.2.2,0,false⟩))++[some (AObj.cells ⟨csA,0,false⟩)]).length = rs.length + 2:=by simp
 have hN : ∀ i,i < rs.length + 1→(Hp (rs.length + 2) ((none :: rs.map fun r=>some (.cells ⟨r.2.2.2,0,false⟩))++[some (.cells ⟨csA,0,false⟩)])).N (i + 1):=fun i hi=>by
  show AH.sees _ _ = true
  rw [Hq_sees,hlen]
  simpa using hi
 have args : ∀ i r,rs[i]? = some r→Vm.ren φ κ (.slice (some ⟨i + 1,0,none⟩) r.2.1 r.2.2.1) = .slice r.1 r.2.1 r.2.2.1∧okV (Hp (rs.length + 2) ((none :: rs.map fun r=>some (.cells ⟨r.2.2.2,0,false⟩))++[some (.cells ⟨csA,0,false⟩)])).N κ (.slice (some ⟨i + 1,0,none⟩) r.2.1 r.2.2.1):=fun i r hi =>
  (hg r (List.mem_of_getElem? hi) φ κ _ (i + 1) (e1 i r hi).1 (e1 i r hi).2 (hN i (by have:=(List.getElem?_eq_some_iff.1 hi).1; omega))).2
 obtain ⟨c1,c2⟩:=hcs φ κ _ args
 have last:=hp φ κ _ (rs.length + 1) csA e2.1 e2.2 (hN rs.length (by omega)) c1 c2
 refine ⟨φ,κ,?_,last.2⟩
 have : ∀ k o,(((none :: rs.map fun r=>some (AObj.cells ⟨r.2.2.2,0,false⟩))++[some (AObj.cells ⟨csA,0,false⟩)])[k]?).join = some o→entOK φ κ (Hp (rs.length + 2) ((none :: rs.map fun r=>some (.cells ⟨r.2.2.2,0,false⟩))++[some (.cells ⟨csA,0,false⟩)])).N w k o:=by
  intro k o hk
  cases k with
  | zero=>simp at hk
  | succ i =>
   rw [List.cons_append,List.getElem?_cons_succ,List.getElem?_append] at hk
   split at hk
   ·rw [List.getElem?_map] at hk
    cases hi:rs[i]? with
    | none=>rw [hi] at hk; cases hk
    | some r =>
     rw [hi] at hk
     simp only [Option.map_some,Option.join_some,Option.some.injEq] at hk
     subst hk
     exact (hg r (List.mem_of_getElem? hi) φ κ _ (i + 1) (e1 i r hi).1 (e1 i r hi).2 (hN i (by have:=(List.getElem?_eq_some_iff.1 hi).1; omega))).1
   ·rename_i hi
    rw [List.length_map] at hi hk
    by_cases hi0:i - rs.length = 0
    ·rw [hi0] at hk
     have hk' : some (AObj.cells ⟨csA,0,false⟩) = some o:=hk
     injection hk' with hk'
     subst hk'
     rw [show i = rs.length by omega]
     exact last.1
    ·rw [List.getElem?_eq_none (by show 1≤i - rs.length; omega)] at hk
     cases hk
 rw [← hlen] at this ⊢
 exact rel_entry ht this
theorem Row.of_cells {w:World} {a:Addr} {n cap:Nat} {cs:List Value} (hm:cap≤maxLen) (h0:cap≠0) (hex : ∃ u,w.cell? (a.add 0) = some u) (hc : ∀ j u,cs[j]? = some u→w.cell? (a.add j) = some u):Row w (some a) n cap cs:=by
 refine ⟨hm,fun h=>absurd h h0,fun _=>?_⟩
 obtain ⟨u,hu⟩:=hex
 obtain ⟨ce,el,fz,e1,e2,e3⟩:=cell_some hu
 obtain ⟨b,off,s⟩:=a
 have hs:s = none:=by simpa [Addr.add] using e2
 subst hs
 have hadd : ∀ j,(⟨b,off,none⟩ : Addr).add j = ⟨b,off + j,none⟩:=fun j=>by
  unfold Addr.add
  split
  ·rename_i hz; rw [hz,Nat.add_zero]
  ·rfl
 rw [hadd] at e1 e3
 simp only at e1 e3
 have hget : ∀ j u,cs[j]? = some u→ce[off + j]? = some u:=fun j u hj=>by
  have:=hc j u hj
  rw [hadd] at this
  obtain ⟨ce',el',fz',g1,_,g3⟩:=cell_some this
  simp only at g1 g3
  rw [e1] at g1
  injection g1 with g1
  injection g1 with g1
  subst g1
  exact g3
 refine ⟨b,off,ce,el,fz,rfl,e1,?_,hget⟩
 rcases Nat.eq_zero_or_pos cs.length with hz|hz
 ·rw [hz]; have:=(Array.getElem?_eq_some_iff.1 e3).1; omega
 ·have:=hget (cs.length - 1) _ (List.getElem?_eq_getElem (by omega))
  have:=(Array.getElem?_eq_some_iff.1 this).1
  omega
end Go.Proofs.YtgjokhodccacoaaDoor
set_option linter.unusedSimpArgs false
set_option linter.unusedVariables false
namespace Go.Proofs.YtgjokhodccacoaaDoor
open Go.RowKit Go.Vm Go.Deep Go.ChangeShapes Go.WideShapes
set_option maxRecDepth 100000
abbrev PF:=Int×List Int×Nat
def frCells:Nat→List PF→List Value
 | _,[]=>[]
 | i,f :: r=>.int .i64 f.1 :: .slice (some ⟨i,0,none⟩) f.2.1.length f.2.2 :: frCells (i + 1) r
def frMem (fs:List PF):List (Option AObj):=(none :: fs.map fun f=>srB f.2.1)++[some (.cells ⟨frCells 1 fs,0,false⟩)]
theorem frMem_len (fs:List PF):(frMem fs).length = fs.length + 2:=by simp [frMem]
theorem frMem_pay {fs:List PF} {i:Nat} {f:PF} (h:fs[i]? = some f):(frMem fs)[i + 1]? = some (srB f.2.1):=by
 have hlt:=(List.getElem?_eq_some_iff.1 h).1
 unfold frMem
 rw [List.cons_append,List.getElem?_cons_succ,List.getElem?_append_left (by simpa using hlt),List.getElem?_map,h]
 rfl
theorem frMem_row (fs:List PF):(frMem fs)[fs.length + 1]? = some (some (.cells ⟨frCells 1 fs,0,false⟩)):=by
 unfold frMem
 rw [List.getElem?_append_right (by simp)]
 simp
theorem frCells_get : ∀ {fs:List PF} {i k:Nat} {f:PF},fs[i]? = some f→(frCells k fs)[2 * i]? = some (.int .i64 f.1)∧(frCells k fs)[2 * i + 1]? = some (.slice (some ⟨k + i,0,none⟩) f.2.1.length f.2.2)
 | [],_,_,_,h=>by cases h
 | g :: r,0,k,f,h=>by
  have h:some g = some f:=h
  injection h with h
  subst h
  exact ⟨rfl,rfl⟩
 | g :: r,i + 1,k,f,h=>by
  obtain ⟨h1,h2⟩:=frCells_get (fs:=r) (i:=i) (k:=k + 1) (f:=f) h
  rw [show 2 * (i + 1) = 2 * i + 1 + 1 by omega]
  refine ⟨h1,?_⟩
  show (frCells (k + 1) r)[2 * i + 1]? = _
  rw [h2,show k + 1 + i = k + (i + 1) by omega]
structure Fw where
 kind:Int
 B:Option Addr
 m:Nat
 d:Nat
 xs:List Int
def Fw.pf (f:Fw):PF:=(f.kind,f.xs,f.d)
def fwCells (fs:List Fw):List Value:=fs.flatMap fun f=>[.int .i64 f.kind,.slice f.B f.m f.d]
structure FwOK (w:World) (f:Fw):Prop where
 row:Row w f.B f.m f.d (rows eB f.xs)
 len:f.xs.length = f.m
 cap:f.m≤f.d
 isb:isB f.xs
 kd : -9223372036854775808≤f.kind∧f.kind≤9223372036854775807
theorem fw_map {φ:Nat→Nat×Nat} {κ:Nat→Nat} {N:Nat→Prop} {w:World} : ∀ (fs:List Fw) (k:Nat),(∀ f∈fs,FwOK w f)→(∀ i f,fs[i]? = some f→Vm.ren φ κ (.slice (some ⟨k + i,0,none⟩) f.m f.d) = .slice f.B f.m f.d∧okV N κ (.slice (some ⟨k + i,0,none⟩) f.m f.d))→fwCells fs = (frCells k (fs.map Fw.pf)).map (Vm.ren φ κ)∧∀ v∈frCells k (fs.map Fw.pf),okV N κ v
 | [],_,_,_=>⟨rfl,fun v hv=>by cases hv⟩
 | f :: r,k,ho,h=>by
  have h0:=h 0 f rfl
  have hf:=ho f (List.mem_cons_self ..)
  obtain ⟨i1,i2⟩:=fw_map r (k + 1) (fun g hg=>ho g (List.mem_cons_of_mem _ hg)) (fun i g hg=>by
   have:=h (i + 1) g hg
   rw [show k + (i + 1) = k + 1 + i by omega] at this
   exact this)
  rw [Nat.add_zero] at h0
  have e:frCells k ((f :: r).map Fw.pf) = .int .i64 f.kind :: .slice (some ⟨k,0,none⟩) f.m f.d :: frCells (k + 1) (r.map Fw.pf):=by
   show Value.int .i64 f.kind :: Value.slice (some ⟨k,0,none⟩) f.xs.length f.d :: _ = _
   rw [hf.len]
  rw [e]
  refine ⟨?_,fun v hv=>?_⟩
  ·show [Value.int .i64 f.kind,.slice f.B f.m f.d]++fwCells r = _
   rw [i1,List.map_cons,List.map_cons,h0.1]
   rfl
  ·rcases List.mem_cons.1 hv with rfl|hv
   ·exact trivial
   ·rcases List.mem_cons.1 hv with rfl|hv
    ·exact h0.2
    ·exact i2 v hv
theorem frames_entry {w : World} (ht : Tab w) {A : Option Addr} {n c : Nat} {fs : List Fw} (hf : ∀ f ∈ fs, FwOK w f) (hr : Row w A n c (fwCells fs)) (hn : fs.length = n) :
    ∃ φ κ,Rel w φ κ (Hp (n + 2) (frMem (fs.map Fw.pf))) w∧Vm.ren φ κ (.slice (some ⟨n + 1,0,none⟩) n c) = .slice A n c∧okV (Hp (n + 2) (frMem (fs.map Fw.pf))).N κ (.slice (some ⟨n + 1,0,none⟩) n c):=by
 subst hn
 have e1:((none :: (fs.map fun f=>(f.B,f.m,f.d,rows eB f.xs)).map fun r=>some (AObj.cells ⟨r.2.2.2,0,false⟩))++[some (AObj.cells ⟨frCells 1 (fs.map Fw.pf),0,false⟩)]) = frMem (fs.map Fw.pf):=by
  unfold frMem
  rw [List.map_map,List.map_map]
  rfl
 have:=nest_entry ht (fs.map fun f=>(f.B,f.m,f.d,rows eB f.xs)) (fun r hr=>by
  obtain ⟨f,hf',rfl⟩:=List.mem_map.1 hr
  exact ⟨(hf f hf').row,no_all (rows_no (f:=eB) f.xs)⟩) (csA:=frCells 1 (fs.map Fw.pf)) hr (fun φ κ N h=>fw_map fs 1 hf fun i f hi=>by
   have:=h i (f.B,f.m,f.d,rows eB f.xs) (by rw [List.getElem?_map,hi]; rfl)
   rw [Nat.add_comm] at this
   exact this)
 rw [e1] at this
 simpa using this
theorem frames_of_trod {H : Type} {enc : TypeId × Value → H} {w : World} {base : Nat} {held : Bool} {fuel : Nat} {t e ti tb : TypeId} {f0 f1 : Field} {v : Value} {x : DataW H × List MemPlace} (mkB : List Int → Int) (mkB_enc : ∀ l : List Int, l.length = 1 → eB (mkB l) = l.map (Value.int .u8)) (mkB_wf : ∀ l : List Int, l.length = 1 → (∀ z ∈ l, (Lit.int .u8 z).wf = true) → 0 ≤ mkB l ∧ mkB l ≤ 255)
    (ht:Tryd.prog.underlying t = some (.slice e)) (he:Tryd.prog.underlying e = some (.struct #[f0,f1])) (ce:Tryd.prog.cellsOf e = 2) (o0:f0.offset = 0) (o1:f1.offset = 1) (c0:Tryd.prog.cellsOf f0.type = 1) (c1:Tryd.prog.cellsOf f1.type = 1)
    (hi:Tryd.prog.underlying f0.type = some (.int .i64)) (hil:leaves Tryd.prog 9 f0.type = some [f0.type]) (hb:Tryd.prog.underlying f1.type = some (.slice tb)) (htb:Tryd.prog.underlying tb = some (.int .u8)) (hbl:leaves Tryd.prog 9 tb = some [tb]) (ctb:Tryd.prog.cellsOf tb = 1)
    (h:DataW.trod enc Tryd.prog w base (fun _=>true) held fuel t [v] = some x) :
    ∃ (A:Option Addr) (n c:Nat) (fs:List Fw),v = .slice A n c∧fs.length = n∧n≤c∧Row w A n c (fwCells fs)∧∀ f∈fs,FwOK w f:=by
 rcases open_slice_pairs ht he ce o0 o1 c0 c1 h with ⟨hcs,_⟩|⟨a,len,cap,m,n',V0,V1,D0,D1,P0,P1,hcs,hba,hl,hm,hmm,hx,hi2⟩
 ·simp only [List.cons.injEq,and_true] at hcs
  subst hcs
  exact ⟨none,0,0,[],rfl,rfl,Nat.le_refl _,⟨by simp [maxLen],fun _=>⟨rfl,rfl⟩,fun h=>absurd rfl h⟩,fun f hf=>by cases hf⟩
 ·simp only [List.cons.injEq,and_true] at hcs
  subst hcs
  have hmc:m = cap:=by rw [hmm]; simp
  subst hmc
  have each : ∀ i,∃ f:Fw,i < m→V0 i = .int .i64 f.kind∧V1 i = .slice f.B f.m f.d∧FwOK w f:=by
   intro i
   by_cases him:i < m
   ·obtain ⟨_,_,t0,t1⟩:=hi2 i him
    obtain ⟨y,hy,hw⟩:=(leaves_spec 9 f0.type _ hil n' _ _ t0 0 _ rfl).int hi
    obtain ⟨B,k,d,xs,hv,hxl,hr,hc,hxs⟩:=Row.of_trod mkB mkB_enc (f:=9) (ls:=[tb]) hb hbl rfl (by omega) ctb (fun lt hlt=>by simp at hlt; subst hlt; exact htb) t1
    have hy' : V0 i = .int .i64 y:=by simpa using hy
    refine ⟨⟨y,B,k,d,xs⟩,fun _=>⟨hy',hv,⟨hr,hxl,hc,fun z hz=>?_,?_⟩⟩⟩
    ·obtain ⟨l,hl1,rfl,hwf⟩:=hxs z hz
     exact mkB_wf l hl1 hwf
    ·simp [Lit.wf,IntKind.min,IntKind.max,IntKind.signed,IntKind.bits] at hw
     exact ⟨by show -9223372036854775808≤y; omega,by show y≤9223372036854775807; omega⟩
   ·exact ⟨⟨0,none,0,0,[]⟩,fun h=>absurd h him⟩
  obtain ⟨g,hg⟩:=Classical.axiomOfChoice each
  refine ⟨some a,len,m,(List.range len).map g,rfl,by simp,hl,?_,fun f hf=>?_⟩
  ·by_cases hm0:m = 0
   ·subst hm0
    obtain rfl:len = 0:=by omega
    exact ⟨hm,fun _=>⟨rfl,rfl⟩,fun h=>absurd rfl h⟩
   ·refine Row.of_cells hm hm0 ⟨V0 0,by have:=(hi2 0 (by omega)).1; rwa [Nat.zero_mul] at this⟩ fun j u hj=>?_
    have key : ∀ (k:Nat) (l:List Nat) (o:Nat),l.length = k→(∀ i,i < k→l[i]? = some (o + i))→o + k≤len→∀ j u,(fwCells (l.map g))[j]? = some u→w.cell? (a.add (o * 2 + j)) = some u:=by
     intro k
     induction k with
     | zero =>
      intro l o hl0 _ _ j u hj
      obtain rfl:l = []:=List.eq_nil_of_length_eq_zero hl0
      cases hj
     | succ k ih =>
      intro l o hl0 hli hok j u hj
      match l,hl0 with
      | i0 :: r,hl0 =>
       have h0:=hli 0 (by omega)
       have h0:some i0 = some (o + 0):=h0
       injection h0 with h0
       rw [Nat.add_zero] at h0
       subst h0
       obtain ⟨g1,g2,_,_⟩:=hi2 i0 (by omega)
       obtain ⟨k1,k2,_⟩:=hg i0 (by omega)
       have hj' : ([Value.int .i64 (g i0).kind,.slice (g i0).B (g i0).m (g i0).d]++fwCells (r.map g))[j]? = some u:=hj
       match j,hj' with
       | 0,hj' =>
        have hj' : some (Value.int .i64 (g i0).kind) = some u:=hj'
        injection hj' with hj'
        subst hj'
        rw [Nat.add_zero,g1,k1]
       | 1,hj' =>
        have hj' : some (Value.slice (g i0).B (g i0).m (g i0).d) = some u:=hj'
        injection hj' with hj'
        subst hj'
        rw [g2,k2]
       | j + 2,hj' =>
        have:=ih r (i0 + 1) (by simpa using hl0) (fun i hi=>by
         have:=hli (i + 1) (by omega)
         rw [List.getElem?_cons_succ] at this
         rw [this,show i0 + (i + 1) = i0 + 1 + i by omega]) (by omega) j u hj'
        rw [show i0 * 2 + (j + 2) = (i0 + 1) * 2 + j by omega]
        exact this
    have:=key len (List.range len) 0 (by simp) (fun i hi=>by rw [List.getElem?_range hi,Nat.zero_add]) (by omega) j u hj
    rwa [Nat.zero_mul,Nat.zero_add] at this
  ·obtain ⟨i,hi3,rfl⟩:=List.mem_map.1 hf
   exact (hg i (by have:=List.mem_range.1 hi3; omega)).2.2
end Go.Proofs.YtgjokhodccacoaaDoor
