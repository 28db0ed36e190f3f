import Derived.Test.YtgjokhodccacoaaDoorSRecE2
import Derived.Test.YtgjokhodccacoaaDoorSRecI7
import Derived.Deep.Slices
set_option linter.unusedSimpArgs false
set_option linter.unusedVariables false
namespace Go.Proofs.YtgjokhodccacoaaDoor
open Go.RowKit Go.Vm Go.Deep Go.ChangeShapes Go.WideShapes
set_option maxRecDepth 100000
structure Pw where
 B:Option Addr
 m:Nat
 d:Nat
 xs:List Int
def Pw.pb (f:Pw):PB:=(f.xs,f.d)
def pwCells (fs:List Pw):List Value:=fs.map fun f=>.slice f.B f.m f.d
structure PwOK (w:World) (f:Pw):Prop where
 row:Row w f.B f.m f.d (rows eB f.xs)
 len:f.xs.length = f.m
 cap:f.m≤f.d
 isb:isB f.xs
theorem pw_map {φ:Nat→Nat×Nat} {κ:Nat→Nat} {N:Nat→Prop} {w:World} : ∀ (fs:List Pw) (k:Nat),(∀ f∈fs,PwOK w f)→(∀ i f,fs[i]? = some f→Vm.ren φ κ (.slice (some ⟨k + i,0,none⟩) f.m f.d) = .slice f.B f.m f.d∧okV N κ (.slice (some ⟨k + i,0,none⟩) f.m f.d))→pwCells fs = (pbCells k (fs.map Pw.pb)).map (Vm.ren φ κ)∧∀ v∈pbCells k (fs.map Pw.pb),okV N κ v
 | [],_,_,_=>⟨rfl,fun v hv=>by cases hv⟩
 | f :: r,k,ho,h=>by
  have h0:=h 0 f rfl
  have hf:=ho f (List.mem_cons_self ..)
  obtain ⟨i1,i2⟩:=pw_map r (k + 1) (fun g hg=>ho g (List.mem_cons_of_mem _ hg)) (fun i g hg=>by
   have:=h (i + 1) g hg
   rw [show k + (i + 1) = k + 1 + i by omega] at this
   exact this)
  rw [Nat.add_zero] at h0
  have e:pbCells k ((f :: r).map Pw.pb) = .slice (some ⟨k,0,none⟩) f.m f.d :: pbCells (k + 1) (r.map Pw.pb):=by
   show Value.slice (some ⟨k,0,none⟩) f.xs.length f.d :: _ = _
   rw [hf.len]
  rw [e]
  refine ⟨?_,fun v hv=>?_⟩
  ·show Value.slice f.B f.m f.d :: pwCells r = _
   rw [i1,List.map_cons,h0.1]
  ·rcases List.mem_cons.1 hv with rfl|hv
   ·exact h0.2
   ·exact i2 v hv
theorem pbs_entry {w : World} (ht : Tab w) {A : Option Addr} {n c : Nat} {fs : List Pw} (hf : ∀ f ∈ fs, PwOK w f) (hr : Row w A n c (pwCells fs)) (hn : fs.length = n) :
    ∃ φ κ,Rel w φ κ (Hp (n + 2) (pbMem (fs.map Pw.pb))) w∧Vm.ren φ κ (.slice (some ⟨n + 1,0,none⟩) n c) = .slice A n c∧okV (Hp (n + 2) (pbMem (fs.map Pw.pb))).N κ (.slice (some ⟨n + 1,0,none⟩) n c):=by
 subst hn
 have e1:((none :: (fs.map fun f=>(f.B,f.m,f.d,rows eB f.xs)).map fun r=>some (AObj.cells ⟨r.2.2.2,0,false⟩))++[some (AObj.cells ⟨pbCells 1 (fs.map Pw.pb),0,false⟩)]) = pbMem (fs.map Pw.pb):=by
  unfold pbMem
  rw [List.map_map,List.map_map]
  rfl
 have:=nest_entry ht (fs.map fun f=>(f.B,f.m,f.d,rows eB f.xs)) (fun r hr=>by
  obtain ⟨f,hf',rfl⟩:=List.mem_map.1 hr
  exact ⟨(hf f hf').row,no_all (rows_no (f:=eB) f.xs)⟩) (csA:=pbCells 1 (fs.map Pw.pb)) hr (fun φ κ N h=>pw_map fs 1 hf fun i f hi=>by
   have:=h i (f.B,f.m,f.d,rows eB f.xs) (by rw [List.getElem?_map,hi]; rfl)
   rw [Nat.add_comm] at this
   exact this)
 rw [e1] at this
 simpa using this
theorem pbs_of_trod {H : Type} {enc : TypeId × Value → H} {w : World} {base : Nat} {held : Bool} {fuel : Nat} {t e tb : TypeId} {v : Value} {x : DataW H × List MemPlace} (mkB : List Int → Int) (mkB_enc : ∀ l : List Int, l.length = 1 → eB (mkB l) = l.map (Value.int .u8)) (mkB_wf : ∀ l : List Int, l.length = 1 → (∀ z ∈ l, (Lit.int .u8 z).wf = true) → 0 ≤ mkB l ∧ mkB l ≤ 255)
    (ht:Tryd.prog.underlying t = some (.slice e)) (he:Tryd.prog.underlying e = some (.slice tb)) (ce:Tryd.prog.cellsOf e = 1) (htb:Tryd.prog.underlying tb = some (.int .u8)) (hbl:leaves Tryd.prog 9 tb = some [tb]) (ctb:Tryd.prog.cellsOf tb = 1)
    (h:DataW.trod enc Tryd.prog w base (fun _=>true) held fuel t [v] = some x) :
    ∃ (A:Option Addr) (n c:Nat) (fs:List Pw),v = .slice A n c∧fs.length = n∧n≤c∧Row w A n c (pwCells fs)∧∀ f∈fs,PwOK w f:=by
 rcases open_slice1 ht ce h with ⟨hcs,_⟩|⟨a,len,cap,m,n',V,D,Pl,hcs,hba,hl,hm,hmm,hx,hi⟩
 ·simp only [List.cons.injEq,and_true] at hcs
  subst hcs
  exact ⟨none,0,0,[],rfl,rfl,Nat.le_refl _,⟨by simp [maxLen],fun _=>⟨rfl,rfl⟩,fun h=>absurd rfl h⟩,fun f hf=>by cases hf⟩
 ·simp only [List.cons.injEq,and_true] at hcs
  subst hcs
  have hmc:m = cap:=by rw [hmm]; simp
  subst hmc
  have each : ∀ i,∃ f:Pw,i < m→V i = .slice f.B f.m f.d∧PwOK w f:=by
   intro i
   by_cases him:i < m
   ·obtain ⟨_,t1⟩:=hi i him
    obtain ⟨B,k,d,xs,hv,hxl,hr,hc,hxs⟩:=Row.of_trod mkB mkB_enc (f:=9) (ls:=[tb]) he hbl rfl (by omega) ctb (fun lt hlt=>by simp at hlt; subst hlt; exact htb) t1
    refine ⟨⟨B,k,d,xs⟩,fun _=>⟨hv,⟨hr,hxl,hc,fun z hz=>?_⟩⟩⟩
    obtain ⟨l,hl1,rfl,hwf⟩:=hxs z hz
    exact mkB_wf l hl1 hwf
   ·exact ⟨⟨none,0,0,[]⟩,fun h=>absurd h him⟩
  obtain ⟨g,hg⟩:=Classical.axiomOfChoice each
  refine ⟨some a,len,m,(List.range len).map g,rfl,by simp,hl,?_,fun f hf=>?_⟩
  ·by_cases hm0:m = 0
   ·subst hm0
    obtain rfl:len = 0:=by omega
    exact ⟨hm,fun _=>⟨rfl,rfl⟩,fun h=>absurd rfl h⟩
   ·refine Row.of_cells hm hm0 ⟨V 0,(hi 0 (by omega)).1⟩ fun j u hj=>?_
    unfold pwCells at hj
    rw [List.map_map,List.getElem?_map] at hj
    by_cases hjl:j < len
    ·rw [List.getElem?_range hjl] at hj
     have hj:some (Value.slice (g j).B (g j).m (g j).d) = some u:=hj
     injection hj with hj
     rw [← hj,← (hg j (by omega)).1]
     exact (hi j (by omega)).1
    ·rw [List.getElem?_eq_none (by simp; omega)] at hj
     cases hj
  ·obtain ⟨i,hi',rfl⟩:=List.mem_map.1 hf
   rw [List.mem_range] at hi'
   exact (hg i (by omega)).2
end Go.Proofs.YtgjokhodccacoaaDoor
