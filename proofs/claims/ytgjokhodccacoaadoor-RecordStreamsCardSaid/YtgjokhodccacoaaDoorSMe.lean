import Derived.Test.YtgjokhodccacoaaDoorSMd
import Derived.Test.YtgjokhodccacoaaDoorSMem
import Derived.Test.YtgjokhodccacoaaDoorSApp
import Derived.Test.YtgjokhodccacoaaDoorSOpn
set_option linter.unusedSimpArgs false
set_option linter.unusedVariables false
namespace Go.Proofs.YtgjokhodccacoaaDoor
open Go.RowKit Go.Vm
section
variable {P:Program} {w0 w w' : World} {φ φ' : Nat→Nat×Nat} {κ κ' : Nat→Nat} {h h' : AH}
theorem _root_.Go.Vm.Rel.under (R:Rel w0 φ κ h w) (b:Below w.heap.size w w'):Step w0 φ κ h φ κ h w' :=
 ⟨fun _ _=>⟨rfl,rfl⟩,⟨R.below.trans (b.mono R.below.size),R.hid,R.wl,fun k o g=>(R.ent k o g).move (fun _ s=>s) (fun _ _=>⟨rfl,rfl⟩) ⟨rfl,rfl⟩ fun hr=>b.block _ ((R.ent k o g).lt hr),R.own,R.inj⟩,Nat.le_refl _,rfl,rfl,fun _ _=>rfl⟩
theorem _root_.Go.Vm.Fc.ofPlain {f : Nat} {args : List Value} {v : Value} (hv : noAddr v = true) (hb : ∃ fn c, P.funcs[f]? = some fn ∧ fn.body = some c)
    (H : ∀ w0 φ κ w,Rel w0 φ κ h w→(∀ x∈args,okV h.N κ x)→Calls P f (args.map (Vm.ren φ κ)).toArray w fun e w'=>e = .returned v∧Below w.heap.size w w'):Fc P f args h v h :=
 ⟨fun _=>Grow.refl _,hb,fun w0 φ κ w R ha=>(H w0 φ κ w R ha).mono fun e w' ⟨h1,h2⟩=>⟨φ,κ,by rw [ren_noAddr _ _ _ hv]; exact h1,R.under h2,ok_noAddr _ _ _ hv⟩⟩
theorem _root_.Go.Vm.Rel.sl {α : Type} {enc : α → List Value} {c : Nat} [F : FlatE enc c] (R : Rel w0 φ κ h w) {k n cp sz : Nat} {op : Bool} {xs : List α} (g : h.get k = some (.cells ⟨rows enc xs, sz, op⟩)) (hc : 0 < c) (o : okV h.N κ (.slice (some ⟨k, 0, none⟩) n cp)) (hn : xs.length = n) :
    ∃ A cap,Vm.ren φ κ (.slice (some ⟨k,0,none⟩) n cp) = .slice A n cap∧Sl enc c w w.heap.size A n xs:=by
 refine ⟨_,_,ren_slice o,hn,fun hx=>?_⟩
 have hz:κ k≠0:=R.nz g (fun e=>by
  have:=congrArg List.length e
  simp only [rows_len,List.length_nil,Nat.mul_eq_zero] at this
  rcases this with h|h
  ·exact hx (List.eq_nil_of_length_eq_zero h)
  ·omega)
 refine ⟨(φ k).1,(φ k).2,by simp only [if_neg hz,Nat.add_zero],(R.ent k _ g).lt hz,fun i x hi j u hu=>?_⟩
 have hr:(rows enc xs)[i * c + j]? = some u:=by
  have hi':=(List.getElem?_eq_some_iff.1 hi)
  have hj:=(List.getElem?_eq_some_iff.1 hu).1
  rw [F.len] at hj
  have h9:((rows enc xs).drop (i * c))[j]? = some u:=by
   rw [rows_drop,List.drop_eq_getElem_cons hi'.1,rows_cons,List.getElem?_append_left (by rw [F.len]; exact hj),hi'.2]
   exact hu
  rw [List.getElem?_drop] at h9
  exact h9
 have:=(R.cells g hr).1
 have hno:noAddr u = true:=by
  have h1:=F.no x
  have key : ∀ l:List Value,noAddrL l = true→∀ v∈l,noAddr v = true:=by
   intro l
   induction l with
   | nil=>intro _ v hv; cases hv
   | cons a r ihr =>
    intro hh v hv
    simp only [noAddrL,Bool.and_eq_true] at hh
    rcases List.mem_cons.1 hv with rfl|hv
    ·exact hh.1
    ·exact ihr hh.2 v hv
  exact key _ h1 u (List.mem_of_getElem? hu)
 rw [ren_noAddr _ _ _ hno,← Nat.add_assoc] at this
 exact this
structure Row (w:World) (A:Option Addr) (n cap:Nat) (cs:List Value):Prop where
 small:cap≤maxLen
 zero:cap = 0→n = 0∧cs = []
 row:cap≠0→∃ b off c el fz,A = some ⟨b,off,none⟩∧w.heap[b]? = some (.cells c el fz)∧off + cs.length≤c.size∧∀ j u,cs[j]? = some u→c[off + j]? = some u
theorem Row.ent {A : Option Addr} {n cap : Nat} {cs : List Value} (r : Row w A n cap cs) (hno : ∀ v ∈ cs, noAddr v = true) :
    ∃ p K,∀ (φ:Nat→Nat×Nat) (κ:Nat→Nat) (N:Nat→Prop) (k:Nat),φ k = p→κ k = K→N k→entOK φ κ N w k (.cells ⟨cs,0,false⟩)∧Vm.ren φ κ (.slice (some ⟨k,0,none⟩) n cap) = .slice A n cap∧okV N κ (.slice (some ⟨k,0,none⟩) n cap):=by
 have hcap:cap < openB:=by have:=r.small; unfold maxLen at this; unfold openB; omega
 by_cases h0:cap = 0
 ·obtain ⟨rfl,rfl⟩:=r.zero h0
  subst h0
  obtain ⟨m,hm⟩:=dec_sur A
  refine ⟨(m,0),0,fun φ κ N k e1 e2 hk=>⟨⟨fun _=>rfl,fun hz=>absurd e2 hz⟩,?_,?_⟩⟩
  ·simp only [Vm.ren,e1,e2,if_true,hm]
  ·simp only [okV,e2]
   exact ⟨hk,fun _=>⟨trivial,fun _=>trivial⟩,fun h=>by omega⟩
 ·obtain ⟨b,off,c,el,fz,rfl,h1,h2,h3⟩:=r.row h0
  refine ⟨(b,off),1,fun φ κ N k e1 e2 hk=>⟨⟨fun hz=>(by rw [e2] at hz; cases hz),fun _=>⟨c,el,fz,by rw [e1]; exact h1,fun hz=>absurd rfl hz,by rw [e1]; exact h2,fun j v hj=>?_,fun v hv=>ok_noAddr _ _ _ (hno v hv),fun hz=>(by cases hz)⟩⟩,?_,?_⟩⟩
  ·rw [e1,ren_noAddr _ _ _ (hno v (List.mem_of_getElem? hj))]
   exact h3 j v hj
  ·simp only [Vm.ren,e1,e2,hcap,if_true,Nat.add_zero,if_neg (Nat.succ_ne_zero 0)]
  ·simp only [okV,e2]
   exact ⟨hk,fun h=>(by cases h),fun h=>by omega⟩
theorem rel_entry (ht:Tab w) {L:List (Option AObj)} (H : ∀ k o,(L[k]?).join = some o→entOK φ κ (Hp L.length L).N w k o):Rel w φ κ (Hp L.length L) w :=
 ⟨⟨Below.refl _ _,ht⟩,fun p hp=>(by cases hp),Nat.le_refl _,fun k o g=>H k o (by rw [← Hp_get (wl:=L.length)]; exact g),fun k o g _ hk=>absurd (sees_lt (get_sees g)) (Nat.not_lt.2 hk),fun k k' o o' g _ _ _ hk=>absurd (sees_lt (get_sees g)) (Nat.not_lt.2 hk)⟩
theorem _root_.Go.Vm.Fc.enter {f:Nat} {args:List Value} {v:Value} (F:Fc P f args h v h') (R:Rel w φ κ h w) (ha : ∀ x∈args,okV h.N κ x) {as:Array Value} (e:(args.map (Vm.ren φ κ)).toArray = as) (hv:noAddr v = true):Calls P f as w fun en w'=>en = .returned v∧Below w.heap.size w w':=by
 subst e
 refine (F.run w φ κ w R ha).mono ?_
 rintro en w' ⟨φ',κ',rfl,S,_⟩
 exact ⟨by rw [ren_noAddr _ _ _ hv],S.rel.below.toBelow⟩
end
end Go.Proofs.YtgjokhodccacoaaDoor
namespace Go.Proofs.YtgjokhodccacoaaDoor
open Go.RowKit Go.Vm Go.Deep Go.ChangeShapes Go.WideShapes
theorem cell_some {w:World} {p:Addr} {u:Value} (h:w.cell? p = some u) : ∃ c el fz,w.heap[p.block]? = some (.cells c el fz)∧p.spot = none∧c[p.off]? = some u:=by
 unfold World.cell? at h
 split at h
 ·rename_i c el fz hc
  split at h
  ·cases h
  ·rename_i hs
   exact ⟨c,el,fz,hc,by cases hp:p.spot with|none=>rfl|some s=>rw [hp] at hs; simp at hs,h⟩
 ·cases h
theorem Row.of_trod {H : Type} {enc : TypeId × Value → H} {P : Program} {w : World} {base : Nat} {held : Bool} {α : Type} {ea : α → List Value} {c : Nat} [F : FlatE ea c] {kd : IntKind} (mk : List Int → α) (hmk : ∀ l : List Int, l.length = c → ea (mk l) = l.map (Value.int kd)) {f fuel : Nat} {t e : TypeId} {ls : List TypeId} {v : Value} {x : DataW H × List MemPlace}
    (ht:P.underlying t = some (.slice e)) (hle:leaves P f e = some ls) (hlen:ls.length = c) (hc:0 < c) (hC:P.cellsOf e = c) (hls : ∀ lt∈ls,P.underlying lt = some (.int kd)) (h:DataW.trod enc P w base (fun _=>true) held fuel t [v] = some x) :
    ∃ (A:Option Addr) (n cap:Nat) (xs:List α),v = .slice A n cap∧xs.length = n∧Row w A n cap (rows ea xs)∧n≤cap∧∀ y∈xs,∃ l:List Int,l.length = c∧y = mk l∧∀ z∈l,(Lit.int kd z).wf = true:=by
 obtain ⟨A,n,cap,xs,hv,hs,h1,h2,h3⟩:=Sl.of_trod mk hmk ht hle hlen hc hC hls h
 refine ⟨A,n,cap,xs,hv,hs.1,⟨h2,fun h0=>?_,fun h0=>?_⟩,h1,h3⟩
 ·have hn:n = 0:=by omega
  have hx:xs = []:=List.eq_nil_of_length_eq_zero (by rw [hs.1,hn])
  exact ⟨hn,by rw [hx]; rfl⟩
 ·have hA : ∃ a u, A = some a ∧ w.cell? a = some u := by
    rcases open_slice ht h with ⟨hcs,_⟩|⟨a,len,cap',m,n',D,Pl,hcs,hb,hl,hm,hmm,hx,hi⟩
    ·simp only [List.cons.injEq,and_true] at hcs
     rw [hv] at hcs
     injection hcs with e1 e2 e3
     exact absurd e3 h0
    ·simp only [List.cons.injEq,and_true] at hcs
     rw [hv] at hcs
     injection hcs with e1 e2 e3
     subst e1 e2 e3
     have hm0:0 < m:=by rw [hmm]; simp; omega
     obtain ⟨cs',g1,_⟩:=hi 0 hm0
     obtain ⟨_,g3,g4⟩:=World.cells?_some g1
     rw [hC] at g3 g4
     have g5:=g4 0 hc
     rw [List.getElem?_eq_getElem (by omega),Nat.zero_mul] at g5
     have hadd:(a.add 0).add 0 = a:=by
      obtain ⟨b,o,s⟩:=a
      cases s <;> simp [Addr.add]
     rw [hadd] at g5
     exact ⟨a,_,rfl,g5⟩
  obtain ⟨a,u,rfl,hu⟩:=hA
  obtain ⟨ce,el,fz,e1,e2,e3⟩:=cell_some hu
  obtain ⟨b,off,s⟩:=a
  simp only at e1 e2 e3
  subst e2
  have hget : ∀ j u,(rows ea xs)[j]? = some u→ce[off + j]? = some u:=by
   intro j u hj
   have hne:xs≠[]:=fun e=>by rw [e] at hj; simp [rows] at hj
   obtain ⟨b',off',e4,_,e5⟩:=hs.2 hne
   injection e4 with e4
   injection e4 with e4 e6
   subst e4 e6
   obtain ⟨i,k,y,rfl,hy,hk⟩:=flatMap_inv (enc:=ea) (c:=c) (fun y=>⟨F.len y,fun u hu=>List.all_eq_true.1 (F.one y) u hu⟩) xs j u hj
   obtain ⟨ce',el',fz',g1,_,g3⟩:=cell_some (e5 i y hy k u hk)
   simp only at g1 g3
   rw [e1] at g1
   injection g1 with g1
   injection g1 with g1
   subst g1
   rw [← Nat.add_assoc]
   exact g3
  refine ⟨b,off,ce,el,fz,rfl,e1,?_,hget⟩
  rcases Nat.eq_zero_or_pos (rows ea xs).length with hz|hz
  ·rw [hz]; have:=(Array.getElem?_eq_some_iff.1 e3).1; omega
  ·have:=hget ((rows ea xs).length - 1) _ (List.getElem?_eq_getElem (by omega))
   have:=(Array.getElem?_eq_some_iff.1 this).1
   omega
theorem no_all : ∀ {l:List Value},noAddrL l = true→∀ v∈l,noAddr v = true
 | [],_,v,hv=>by cases hv
 | a :: r,h,v,hv=>by
  simp only [noAddrL,Bool.and_eq_true] at h
  rcases List.mem_cons.1 hv with rfl|hv
  ·exact h.1
  ·exact no_all h.2 v hv
end Go.Proofs.YtgjokhodccacoaaDoor
