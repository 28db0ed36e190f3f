import Derived.Test.YtgjokhodccacoaaDoorSMf
set_option linter.unusedSimpArgs false
set_option linter.unusedVariables false
namespace Go.Vm
open Go Go.RowKit
abbrev Rs1:=Nat×List Value
def rsL (cs:List Rs1):List (Option AObj):=cs.map fun p=>some (AObj.cells ⟨p.2,0,false⟩)
def slicesAt:Nat→List Rs1→List Nat→List Value
 | i,(n,_) :: cs,c :: caps=>.slice (some ⟨i,0,none⟩) n c :: slicesAt (i + 1) cs caps
 | _,_,_=>[]
abbrev Ns1:=Nat×List Value×Nat
def nsO (os:List Ns1):List AObj:=os.map fun o=>AObj.cells ⟨o.2.1,o.2.2,true⟩
def newsAt:Nat→List Ns1→List Value
 | _,[]=>[]
 | i,(n,_) :: r=>.slice (some ⟨i,0,none⟩) n openB :: newsAt (i + 1) r
def RdL (h:AH):List Value→List Rs1→Prop
 | [],[]=>True
 | s :: ss,(n,cs) :: r=>Rd h s n cs∧RdL h ss r
 | _,_=>False
def placesV:List (Nat×Nat×Bool)→List Rs1→List Nat→List Value
 | p :: ps,(n,_) :: cs,c :: caps=>rdV p n c :: placesV ps cs caps
 | _,_,_=>[]
def PlOK (h:AH):List (Nat×Nat×Bool)→List Rs1→List Nat→Prop
 | [],[],[]=>True
 | p :: ps,(n,cs) :: r,c :: caps=>RdAt h p n cs∧(p.2.2 = true→c = 0)∧PlOK h ps r caps
 | _,_,_=>False
theorem RdL.places {h:AH} : ∀ {ss:List Value} {cs:List Rs1},RdL h ss cs→∃ ps caps,ss = placesV ps cs caps∧PlOK h ps cs caps
 | [],[],_=>⟨[],[],rfl,trivial⟩
 | s :: ss,(n,cs) :: r,⟨⟨p,c,e,h1,h2⟩,hr⟩=>by
  obtain ⟨ps,caps,e2,h3⟩:=RdL.places hr
  exact ⟨p :: ps,c :: caps,by rw [placesV,← e,← e2],h1,h2,h3⟩
 | [],_ :: _,h=>h.elim
 | _ :: _,[],h=>h.elim
theorem PlOK.len {h:AH} : ∀ {ps:List (Nat×Nat×Bool)} {cs:List Rs1} {caps:List Nat},PlOK h ps cs caps→ps.length = cs.length∧caps.length = cs.length
 | [],[],[],_=>⟨rfl,rfl⟩
 | p :: ps,(n,cs) :: r,c :: caps,⟨_,_,hr⟩=>by
  have:=PlOK.len hr
  simp [this.1,this.2]
 | [],[],_ :: _,h=>h.elim
 | [],_ :: _,_,h=>h.elim
 | _ :: _,[],_,h=>h.elim
 | _ :: _,_ :: _,[],h=>h.elim
theorem PlOK.fr {h : AH} {ψ : Nat → Nat × Nat × Bool} {B : Nat} : ∀ {ps : List (Nat × Nat × Bool)} {cs : List Rs1} {caps : List Nat} (i : Nat), PlOK h ps cs caps → (∀ p ∈ cs, noAddrL p.2 = true) → (∀ j p, ps[j]? = some p → ψ (i + j) = p) → i + cs.length ≤ B →
    frmOK h ψ B i (rsL cs)∧(slicesAt i cs caps).map (mw ψ) = placesV ps cs caps∧∀ s∈slicesAt i cs caps,okM (xiP ψ) B s
 | [],[],[],i,_,_,_,_=>⟨trivial,rfl,fun s hs=>by cases hs⟩
 | p :: ps,(n,cs) :: r,c :: caps,i,⟨h1,h2,hr⟩,hno,hψ,hB=>by
  simp only [List.length_cons] at hB
  have hψ0:ψ i = p:=hψ 0 p rfl
  obtain ⟨q1,q2,q3⟩:=PlOK.fr (ψ:=ψ) (B:=B) (i + 1) hr (fun p hp=>hno p (by simp [hp])) (fun j p hj=>by rw [show i + 1 + j = i + (j + 1) from by omega]; exact hψ (j + 1) p (by simpa using hj)) (by omega)
  refine ⟨⟨fr_rd hψ0 h1 (hno (n,cs) (by simp)),q1⟩,?_,fun s hs=>?_⟩
  ·simp only [slicesAt,placesV,List.map_cons,q2]
   rw [mw_sl hψ0]
  ·rcases List.mem_cons.1 hs with rfl|hs
   ·exact okM_sl hψ0 (by omega) h1 h2
   ·exact q3 s hs
 | [],[],_ :: _,_,h,_,_,_=>h.elim
 | [],_ :: _,_,_,h,_,_,_=>h.elim
 | _ :: _,[],_,_,h,_,_,_=>h.elim
 | _ :: _,_ :: _,[],_,h,_,_,_=>h.elim
structure MkL (mk:List Value→List Value):Prop where
 mw : ∀ ψ ss,mwL ψ (mk ss) = mk (ss.map (Vm.mw ψ))
 ok : ∀ ξ B ss,(∀ s∈ss,okM ξ B s)→okML ξ B (mk ss)
structure MkV (mk:List Value→Value):Prop where
 mw : ∀ ψ ss,Vm.mw ψ (mk ss) = mk (ss.map (Vm.mw ψ))
 ok : ∀ ξ B ss,(∀ s∈ss,okM ξ B s)→okM ξ B (mk ss)
theorem newsAt_mw {ψ:Nat→Nat×Nat×Bool} {B nx:Nat} : ∀ (os:List Ns1) (i:Nat),B≤i→(newsAt i os).map (mw (psi1 ψ B nx)) = newsAt (nx + (i - B)) os
 | [],_,_=>rfl
 | (n,x) :: r,i,hi=>by
  have ih:=newsAt_mw (ψ:=ψ) (B:=B) (nx:=nx) r (i + 1) (by omega)
  simp only [newsAt,List.map_cons,ih]
  have e:psi1 ψ B nx i = (nx + (i - B),0,false):=by
   unfold psi1
   rw [if_neg (by omega)]
  rw [mw_sl e,show nx + (i + 1 - B) = nx + (i - B) + 1 from by omega]
  rfl
theorem newsAt_ok {ψ:Nat→Nat×Nat×Bool} {B nx C:Nat} : ∀ (os:List Ns1) (i:Nat),B≤i→i + os.length≤C→∀ s∈newsAt i os,okM (xiP (psi1 ψ B nx)) C s
 | [],_,_,_,s,hs=>by cases hs
 | (n,x) :: r,i,hi,hC,s,hs=>by
  simp only [List.length_cons] at hC
  rcases List.mem_cons.1 hs with rfl|hs
  ·have e : psi1 ψ B nx i = (nx + (i - B), 0, false) := by
     unfold psi1
     rw [if_neg (by omega)]
   simp only [okM,xiP]
   refine ⟨by omega,?_⟩
   show okS (if (psi1 ψ B nx i).2.2 = true then _ else _) _ _
   rw [e]
   trivial
  ·exact newsAt_ok r (i + 1) (by omega) (by omega) s hs
theorem Fc.lift {P : Program} {f : Nat} {cs : List Rs1} {os : List Ns1} {mk : List Value → List Value} {mkv : List Value → Value}
    (F : ∀ caps:List Nat,caps.length = cs.length→Fc P f (mk (slicesAt 1 cs caps)) (Hp (cs.length + 1) (none :: rsL cs)) (mkv (newsAt (cs.length + 1) os)) (Hp (cs.length + 1) ((none :: rsL cs)++(nsO os).map some)))
    (hmk:MkL mk) (hmv:MkV mkv) (hno : ∀ p∈cs,noAddrL p.2 = true) (hos : ∀ o∈os,noAddrL o.2.1 = true) {h:AH} {ss:List Value} (h0:h.sees 0 = true) (r:RdL h ss cs) :
    Fc P f (mk ss) h (mkv (newsAt h.next os)) (h.news (nsO os)):=by
 obtain ⟨ps,caps,rfl,hp⟩:=r.places
 obtain ⟨l1,l2⟩:=hp.len
 have hlen:(none :: rsL cs).length = cs.length + 1:=by simp [rsL]
 obtain ⟨q1,q2,q3⟩:=PlOK.fr (ψ:=psL ((0,0,false) :: ps)) (B:=cs.length + 1) 1 hp hno (fun j p hj=>by unfold psL; rw [show 1 + j = j + 1 from by omega,List.getElem?_cons_succ,hj]; rfl) (by omega)
 have F':=F caps l2
 rw [← hlen] at F'
 have hosO : ∀ o∈nsO os,∃ x∈os,o = .cells ⟨x.2.1,x.2.2,true⟩:=fun o ho=>by
  obtain ⟨x,hx,rfl⟩:=List.mem_map.1 ho
  exact ⟨x,hx,rfl⟩
 refine Fc.frameL F' ((0,0,false) :: ps) ?_ ?_ ?_ ?_ (fun o ho=>?_) ?_ ?_ ?_
 ·rw [List.all_eq_true]
  intro o ho
  obtain ⟨x,hx,rfl⟩:=hosO o ho
  rfl
 ·rw [hlen]
  exact ⟨fr_none h0,q1⟩
 ·rw [hlen]
  exact hmk.ok _ _ _ q3
 ·rw [hlen]
  exact hmv.ok _ _ _ (newsAt_ok os _ (Nat.le_refl _) (by simp [nsO]))
 ·obtain ⟨x,hx,rfl⟩:=hosO o ho
  exact okML_noAddr _ _ _ (hos x hx)
 ·rw [hmk.mw,q2]
 ·rw [hlen,hmv.mw,newsAt_mw os _ (Nat.le_refl _),Nat.sub_self,Nat.add_zero]
 ·congr 1
  unfold nsO
  rw [List.map_map]
  refine List.map_congr_left fun x hx=>?_
  simp only [Function.comp,mwO,mwL_noAddr _ _ (hos x hx)]
theorem mwL_app {ψ:Nat→Nat×Nat×Bool} : ∀ (a b:List Value),mwL ψ (a++b) = mwL ψ a++mwL ψ b
 | [],_=>rfl
 | v :: r,b=>by simp only [List.cons_append,mwL,mwL_app r b]
theorem mwL_map' {ψ:Nat→Nat×Nat×Bool} : ∀ (a:List Value),mwL ψ a = a.map (mw ψ)
 | []=>rfl
 | v :: r=>by simp only [List.map_cons,mwL,mwL_map' r]
theorem okML_app {ξ:Nat→Xi} {B:Nat} {a b:List Value}:okML ξ B (a++b)↔okML ξ B a∧okML ξ B b:=by
 rw [okML_iff,okML_iff,okML_iff]
 constructor
 ·exact fun h=>⟨fun v hv=>h v (by simp [hv]),fun v hv=>h v (by simp [hv])⟩
 ·rintro ⟨h1,h2⟩ v hv
  rcases List.mem_append.1 hv with hv|hv
  ·exact h1 v hv
  ·exact h2 v hv
theorem MkL.mid {pre post:List Value} (h1:noAddrL pre = true) (h2:noAddrL post = true):MkL (fun ss=>pre++ss++post) :=
 ⟨fun ψ ss=>by rw [mwL_app,mwL_app,mwL_noAddr _ _ h1,mwL_noAddr _ _ h2,mwL_map'],fun ξ B ss h=>okML_app.2 ⟨okML_app.2 ⟨okML_noAddr _ _ _ h1,okML_iff.2 h⟩,okML_noAddr _ _ _ h2⟩⟩
theorem MkL.app {post:List Value} (h2:noAddrL post = true):MkL (fun ss=>ss++post) :=
 ⟨fun ψ ss=>by rw [mwL_app,mwL_noAddr _ _ h2,mwL_map'],fun ξ B ss h=>okML_app.2 ⟨okML_iff.2 h,okML_noAddr _ _ _ h2⟩⟩
theorem MkV.const {v:Value} (h:noAddr v = true):MkV (fun _=>v):=⟨fun ψ ss=>mw_noAddr _ _ h,fun ξ B ss _=>okM_noAddr _ _ _ h⟩
theorem MkV.agg {mk:List Value→List Value} (h:MkL mk):MkV (fun ss=>.agg ⟨mk ss⟩):=⟨fun ψ ss=>by simp only [Vm.mw,mwA,h.mw],fun ξ B ss hs=>h.ok ξ B ss hs⟩
theorem MkV.tup {mk:List Value→List Value} (h:MkL mk):MkV (fun ss=>.tuple ⟨mk ss⟩):=⟨fun ψ ss=>by simp only [Vm.mw,mwA,h.mw],fun ξ B ss hs=>h.ok ξ B ss hs⟩
theorem MkV.one:MkV (fun ss=>ss.headD undef):=⟨fun ψ ss=>by cases ss <;> rfl,fun ξ B ss hs=>by
 cases ss with
 | nil=>trivial
 | cons v r=>exact hs v (by simp)⟩
theorem MkL.split {n:Nat} {mid:List Value} (hm:noAddrL mid = true):MkL (fun ss=>ss.take n++mid++ss.drop n) :=
 ⟨fun ψ ss=>by rw [mwL_app,mwL_app,mwL_noAddr _ _ hm,mwL_map',mwL_map',List.map_take,List.map_drop],fun ξ B ss h=>okML_app.2 ⟨okML_app.2 ⟨okML_iff.2 fun v hv=>h v (List.mem_of_mem_take hv),okML_noAddr _ _ _ hm⟩,okML_iff.2 fun v hv=>h v (List.mem_of_mem_drop hv)⟩⟩
theorem MkL.agg1 {mk:List Value→List Value} (h:MkL mk) {post:List Value} (hp:noAddrL post = true):MkL (fun ss=>.agg ⟨mk ss⟩ :: post) :=
 ⟨fun ψ ss=>by simp only [mwL,Vm.mw,mwA,h.mw,mwL_noAddr _ _ hp],fun ξ B ss hs=>⟨h.ok ξ B ss hs,okML_noAddr _ _ _ hp⟩⟩
theorem Fc.lift0 {P:Program} {f:Nat} {args:List Value} {v:Value} (F:Fc P f args (Hp 1 [none]) v (Hp 1 [none])) (ha:noAddrL args = true) (hv:noAddr v = true) {h:AH} (h0:h.sees 0 = true):Fc P f args h v h:=by
 have:=Fc.lift (cs:=[]) (os:=[]) (mk:=fun ss=>args++ss++[]) (mkv:=fun _=>v) (ss:=[]) (fun caps hc=>by
  obtain rfl:caps = []:=List.eq_nil_of_length_eq_zero hc
  simp only [slicesAt,List.append_nil]
  exact F) (MkL.mid ha rfl) (MkV.const hv) (fun p hp=>by cases hp) (fun p hp=>by cases hp) h0 trivial
 simp only [List.append_nil] at this
 exact this
end Go.Vm
set_option linter.unusedSimpArgs false
set_option linter.unusedVariables false
namespace Go.Vm
open Go Go.RowKit
def okCell (P:Program) (t:TypeId):Bool:=match P.underlying t,P.info? t with
 | some d,some _=>!isAggD d
 | _,_=>false
theorem aLoad_c {P:Program} {h:AH} {t:TypeId} {k o:Nat} (e:okCell P t = true):aLoad P h t (.pointer (some ⟨k,o,none⟩)) = cellAt h k o:=by
 unfold okCell at e
 split at e
 ·rename_i d i hd hi
  unfold aLoad cellAt
  simp only [hd,hi]
  have ha:isAggD d = false:=by simpa using e
  cases hg:h.get k with
  | none=>rfl
  | some x=>cases x <;> simp [ha]
 ·cases e
def okAgg (P:Program) (t:TypeId) (n:Nat):Bool:=match P.underlying t,P.info? t with
 | some d,some i=>isAggD d && i.size == n
 | _,_=>false
theorem aLoad_a {P:Program} {h:AH} {t:TypeId} {k o:Nat} (n:Nat) (e:okAgg P t n = true):aLoad P h t (.pointer (some ⟨k,o,none⟩)) = (cellsAt h k o n).map fun l=>.agg ⟨l⟩:=by
 unfold okAgg at e
 split at e
 ·rename_i d i hd hi
  unfold aLoad cellsAt
  simp only [Bool.and_eq_true,beq_iff_eq] at e
  obtain ⟨ha,rfl⟩:=e
  simp only [hd,hi]
  cases hg:h.get k with
  | none=>rfl
  | some x =>
   cases x with
   | cells b =>
    simp only [ha,if_true]
    split <;> simp
   | _=>simp
 ·cases e
theorem resF_nil {P:Program} {l:Fr} {h:AH}:resF P l h [] = some []:=rfl
theorem resF_cell {P:Program} {l:Fr} {h:AH} {d ty k o:Nat} {r:List ResultVar} {v:Value} {vs:List Value} (hd:lk l d = some (.pointer (some ⟨k,o,none⟩))) (ht:okCell P ty = true) (hv:cellAt h k o = some v) (hr:resF P l h r = some vs):resF P l h (.cell d ty :: r) = some (v :: vs):=by
 simp only [resF,hd,hr,aLoad_c ht,hv]
theorem resF_agg {P:Program} {l:Fr} {h:AH} {d ty k o:Nat} {r:List ResultVar} {cs:List Value} {vs:List Value} (n:Nat) (hd:lk l d = some (.pointer (some ⟨k,o,none⟩))) (ht:okAgg P ty n = true) (hv:cellsAt h k o n = some cs) (hr:resF P l h r = some vs):resF P l h (.cell d ty :: r) = some (.agg ⟨cs⟩ :: vs):=by
 simp only [resF,hd,hr,aLoad_a n ht,hv,Option.map_some]
theorem resF_tmp {P:Program} {l:Fr} {h:AH} {d:Nat} {r:List ResultVar} {v:Value} {vs:List Value} (hd:lk l d = some v) (hr:resF P l h r = some vs):resF P l h (.tmp d :: r) = some (v :: vs):=by
 simp only [resF,hd,hr]
theorem news_c {h:AH} {o:AObj} {os:List AObj}:h.news (o :: os) = (h.new o).news os:=rfl
theorem news_n {h:AH}:h.news [] = h:=rfl
theorem appK_0 {h:AH} {sz bytes:Nat} {a:Option Addr} {k2 o2 c2:Nat} {K:Value→AH→Prop}:appK h sz bytes (.slice a 0 0) (.slice (some ⟨k2,o2,none⟩) 0 c2) K = K (.slice a 0 0) h:=by
 unfold appK
 have e:sCells h sz (.slice (some ⟨k2,o2,none⟩) 0 c2) = some []:=by unfold sCells; exact if_pos rfl
 rw [e]
 simp only [slen_slice]
 exact propext ⟨fun h=>(h.1 trivial).2,fun h=>⟨fun _=>⟨.inl ⟨by unfold openB; omega,Nat.le_refl _⟩,h⟩,fun e=>absurd rfl e⟩⟩
theorem ITri.one {P:Program} {nt b:Nat} {rd:Option Nat} {ic:IC} {l:Fr} {ms:List Nat} {h:AH} {Q:AEx→Fr→List Nat→AH→Prop} (l2:Fr) (T:ITri P nt rd b ic l ms h fun e l' ms' h'=>e = .normal∧l' = l2∧ms' = ms∧h' = h) (q:Q .normal l2 ms h):ITri P nt rd b ic l ms h Q :=
 T.mono (by rintro _ _ _ _ ⟨rfl,rfl,rfl,rfl⟩; exact q)
theorem Fc.at {P:Program} {f:Nat} {args:List Value} {h g h' : AH} {v:Value} (F:Fc P f args h v h') (e:g = h):Fc P f args g v h':=by rw [e]; exact F
end Go.Vm
set_option linter.unusedSimpArgs false
set_option linter.unusedVariables false
namespace Go.Vm
open Go Go.RowKit
section
variable {wl:Nat} {hid:List (Nat×Nat)} {L T:List (Option AObj)} {k sz sz' bytes n c ne c2 k2 o2 o:Nat} {K:Value→AH→Prop} {h:AH}
theorem apd_get (i:Nat):(L++T)[L.length + i]? = T[i]?:=by rw [List.getElem?_append_right (by omega)]; congr 1; omega
theorem apd_get0:(L++T)[L.length]? = T[0]?:=by rw [List.getElem?_append_right (by omega)]; congr 1; omega
theorem apd_set (i:Nat) (x:Option AObj):(L++T).set (L.length + i) x = L++T.set i x:=by rw [List.set_append_right _ _ (by omega)]; congr 2; omega
theorem apd_set0 (x:Option AObj):(L++T).set L.length x = L++T.set 0 x:=by rw [List.set_append_right _ _ (by omega)]; congr 2; omega
end
theorem Fc.gc {P : Program} {f : Nat} {args : List Value} {h h1 : AH} {os : List AObj} {v v1 : Value} (F : Fc P f args h v1 h1) (hid : h.hid = []) (hw : h.wlim = h.next) (σL : List Nat) (ξL : List (Nat × Xi))
    (q3:σL.length = os.length) (q4:σL.Nodup) (q5 : ∀ s∈σL,h.next≤s) (q6 : ∀ p∈ξL,h.next≤p.1∧p.2.ok)
    (q7:v1 = mv (fun k=>if k < h.next then k else σL.getD (k - h.next) 0) (xiL ξL) v) (q8:okM (xiL ξL) (h.next + os.length) v)
    (q9 : ∀ i o2,os[i]? = some o2→(xiL ξL (h.next + i) = .nil∧nilO o2)∨(xiL ξL (h.next + i)≠.nil∧∃ o,h1.get (σL.getD i 0) = some o∧OM (fun k=>if k < h.next then k else σL.getD (k - h.next) 0) (xiL ξL) (h.next + os.length) (h.next + i) o o2)):Fc P f args h v (h.news os):=by
 refine ⟨fun hw=>news_grow hw _,F.body,fun w0 φ κ w R ha=>?_⟩
 have R0:Rel w φ κ h w:=⟨⟨Below.refl _ _,R.below.now⟩,R.hid,R.wl,R.ent,fun k o g _ hk=>(by have:=sees_lt (get_sees g); omega),R.inj⟩
 refine (F.run w φ κ w R0 ha).mono ?_
 rintro e w1 ⟨φ1,κ1,rfl,S,r2⟩
 let σ:Nat→Nat:=fun k=>if k < h.next then k else σL.getD (k - h.next) 0
 have hroom : ∀ k,(xiL ξL k).ok:=xiL_ok fun p hp=>(q6 p hp).2
 have hlow : ∀ k,k < h.next→xiL ξL k = .same:=fun k hk=>xiL_low (fun p hp=>(q6 p hp).1) hk
 let φ3:Nat→Nat×Nat:=fun k=>if k < h.next + os.length then phi2 φ1 σ (xiL ξL) k else φ k
 let κ3:Nat→Nat:=fun k=>if k < h.next + os.length then kap2 κ1 σ (xiL ξL) k else κ k
 have hnx:(h.news os).next = h.next + os.length:=news_next _ _
 have hN : ∀ k,k < h.next + os.length→(h.news os).N k:=fun k hk=>by
  show AH.sees _ _ = true
  unfold AH.sees
  rw [news_hid,hid,hnx]
  simpa using hk
 have hag : ∀ k,(h.news os).N k→φ3 k = phi2 φ1 σ (xiL ξL) k∧κ3 k = kap2 κ1 σ (xiL ξL) k:=fun k hk=>by
  have:=sees_lt hk
  rw [hnx] at this
  exact ⟨if_pos this,if_pos this⟩
 have hold : ∀ k,k < h.next→φ3 k = φ k∧κ3 k = κ k:=by
  intro k hk
  obtain ⟨a1,a2⟩:=S.agr k (by omega)
  have hs:σ k = k:=if_pos hk
  have e1:φ3 k = phi2 φ1 σ (xiL ξL) k:=if_pos (by omega)
  have e2:κ3 k = kap2 κ1 σ (xiL ξL) k:=if_pos (by omega)
  rw [e1,e2]
  rw [phi2_eq (by rw [hlow k hk]; simp)]
  unfold kap2
  rw [hs,hlow k hk]
  exact ⟨a1,a2⟩
 have hb:=S.rel.below
 have hwl1:h1.wlim = h.next:=S.wlim.trans hw
 have hv:okV (h.news os).N (kap2 κ1 σ (xiL ξL)) v:=ok_mv hroom hN v (by rw [← q7]; exact r2) q8
 have new : ∀ k o,(h.news os).get k = some o→¬ k < h.next→entOK (phi2 φ1 σ (xiL ξL)) (kap2 κ1 σ (xiL ξL)) (h.news os).N w1 k o∧(rl κ3 k o→∃ o1,phi2 φ1 σ (xiL ξL) k = φ1 (σ k)∧h1.get (σ k) = some o1∧rl κ1 (σ k) o1∧h.next≤σ k∧k - h.next < σL.length∧σ k = σL.getD (k - h.next) 0):=by
  intro k o g hk
  have hs':=get_sees g
  rw [news_get R.hid,if_neg hk] at g
  have hlt:=(List.getElem?_eq_some_iff.1 g).1
  have hs:σ k = σL.getD (k - h.next) 0:=if_neg hk
  have q:=q9 _ _ g
  rw [show h.next + (k - h.next) = k from by omega] at q
  have e2:κ3 k = kap2 κ1 σ (xiL ξL) k:=(hag k hs').2
  rcases q with ⟨hx,m1⟩|⟨hx,o1,g1,m1⟩
  ·have hz:kap2 κ1 σ (xiL ξL) k = 0:=by unfold kap2; rw [hx]
   exact ⟨m1.ent hz,fun hr=>absurd hr (m1.rl (by rw [e2]; exact hz))⟩
  ·have E1:=S.rel.ent _ _ g1
   rw [← hs] at E1 g1
   refine ⟨m1.ent hroom hN hx E1,fun hr=>⟨o1,phi2_eq hx,g1,m1.rl (rl_congr e2 hr),?_,by omega,hs⟩⟩
   rw [hs,List.getD_eq_getElem?_getD,List.getElem?_eq_getElem (by omega)]
   exact q5 _ (List.getElem_mem _)
 refine ⟨φ3,κ3,?_,⟨fun k hk=>?_,⟨R.below.trans (hb.mono R.below.size),fun p hp=>(by rw [news_hid,hid] at hp; cases hp),by rw [news_wlim,hnx]; omega,fun k o g=>?_,fun k o g hr hk=>?_,fun k k' o o' g g' hr hr' hk e=>?_⟩,by omega,news_hid _ _,news_wlim _ _,fun k hk=>news_tr _ _ _ (by omega)⟩,ok_mono (fun _ x=>x) (fun k hk=>(hag k hk).2) v hv⟩
 ·rw [q7,ren_mv hroom v q8,ren_congr hag v hv]
 ·rw [hnx] at hk
  by_cases h1:k < h.next
  ·exact hold k h1
  ·exact ⟨if_neg (by omega),if_neg (by omega)⟩
 ·by_cases h1:k < h.next
  ·rw [news_get R.hid,if_pos h1] at g
   have E:=R.ent k o g
   exact E.move (fun j s=>news_N _ s) (fun j s=>hold j (sees_lt s)) (hold k h1) (fun hr=>hb.block _ (E.lt hr))
  ·obtain ⟨E,_⟩:=new k o g h1
   exact E.move (fun _ x=>x) hag (hag k (get_sees g)) fun _=>rfl
 ·rw [news_wlim,hw] at hk
  obtain ⟨o1,p1,g1,r1,g2,_⟩:=(new k o g (by omega)).2 hr
  rw [(hag k (get_sees g)).1]
  have:=S.rel.own _ _ g1 r1 (by rw [hwl1]; exact g2)
  rw [p1]
  have:=R.below.size
  omega
 ·rw [news_wlim,hw] at hk
  obtain ⟨o1,p1,g1,r1,g2,g3,g4⟩:=(new k o g (by omega)).2 hr
  rw [(hag k (get_sees g)).1] at e
  by_cases h1:k' < h.next
  ·rw [news_get R.hid,if_pos h1] at g'
   rw [(hold k' h1).1] at e
   have:=S.rel.own _ _ g1 r1 (by rw [hwl1]; exact g2)
   have:=(R.ent k' o' g').lt (rl_congr (hold k' h1).2 hr')
   rw [p1] at e
   omega
  ·obtain ⟨o1',p1',g1',r1',g2',g3',g4'⟩:=(new k' o' g' h1).2 hr'
   rw [(hag k' (get_sees g')).1,p1,p1'] at e
   have:=S.rel.inj _ _ _ _ g1 g1' r1 r1' (by rw [hwl1]; exact g2) e
   rw [g4,g4',List.getD_eq_getElem?_getD,List.getD_eq_getElem?_getD,List.getElem?_eq_getElem g3,List.getElem?_eq_getElem g3'] at this
   have:=(List.getElem?_inj g3 q4).1 ((List.getElem?_eq_getElem g3).trans ((congrArg some this).trans (List.getElem?_eq_getElem g3').symm))
   omega
end Go.Vm
set_option linter.unusedSimpArgs false
set_option linter.unusedVariables false
namespace Go.Vm
open Go Go.RowKit
section
variable {P:Program} {w:Bool} {t el:TypeId} {f:TypeInfo} {s d e k n i sz:Nat} {l:Fr} {h:AH} {K:Value→AH→Prop}
end
theorem get_hq {wl k:Nat} {hid:List (Nat×Nat)} {L:List (Option AObj)} {o:AObj} (hf:freeOf hid k = true) (hL:(L[k]?).join = some o):(Hq wl hid L).get k = some o:=(free_get hf).trans hL
theorem Hq_bump {wl:Nat} {hid:List (Nat×Nat)} {L:List (Option AObj)}:(Hq wl hid L).bump = Hq wl hid (L++[none]):=by
 unfold AH.bump Hq
 rw [trL_snoc]
 simp
theorem Fc.liftP {P : Program} {f : Nat} {cs : List Rs1} {os : List Ns1} {mk : List Value → List Value} {mkv : List Value → Value} {ps : List (Nat × Nat × Bool)} {caps : List Nat}
    (F:Fc P f (mk (slicesAt 1 cs caps)) (Hp (cs.length + 1) (none :: rsL cs)) (mkv (newsAt (cs.length + 1) os)) (Hp (cs.length + 1) ((none :: rsL cs)++(nsO os).map some)))
    (hmk:MkL mk) (hmv:MkV mkv) (hno : ∀ p∈cs,noAddrL p.2 = true) (hos : ∀ o∈os,noAddrL o.2.1 = true) {h:AH} (h0:h.sees 0 = true) (hp:PlOK h ps cs caps) :
    Fc P f (mk (placesV ps cs caps)) h (mkv (newsAt h.next os)) (h.news (nsO os)):=by
 obtain ⟨l1,l2⟩:=hp.len
 have hlen:(none :: rsL cs).length = cs.length + 1:=by simp [rsL]
 obtain ⟨q1,q2,q3⟩:=PlOK.fr (ψ:=psL ((0,0,false) :: ps)) (B:=cs.length + 1) 1 hp hno (fun j p hj=>by unfold psL; rw [show 1 + j = j + 1 from by omega,List.getElem?_cons_succ,hj]; rfl) (by omega)
 have F':=F
 rw [← hlen] at F'
 have hosO : ∀ o∈nsO os,∃ x∈os,o = .cells ⟨x.2.1,x.2.2,true⟩:=fun o ho=>by
  obtain ⟨x,hx,rfl⟩:=List.mem_map.1 ho
  exact ⟨x,hx,rfl⟩
 refine Fc.frameL F' ((0,0,false) :: ps) ?_ ?_ ?_ ?_ (fun o ho=>?_) ?_ ?_ ?_
 ·rw [List.all_eq_true]
  intro o ho
  obtain ⟨x,hx,rfl⟩:=hosO o ho
  rfl
 ·rw [hlen]
  exact ⟨fr_none h0,q1⟩
 ·rw [hlen]
  exact hmk.ok _ _ _ q3
 ·rw [hlen]
  exact hmv.ok _ _ _ (newsAt_ok os _ (Nat.le_refl _) (by simp [nsO]))
 ·obtain ⟨x,hx,rfl⟩:=hosO o ho
  exact okML_noAddr _ _ _ (hos x hx)
 ·rw [hmk.mw,q2]
 ·rw [hlen,hmv.mw,newsAt_mw os _ (Nat.le_refl _),Nat.sub_self,Nat.add_zero]
 ·congr 1
  unfold nsO
  rw [List.map_map]
  refine List.map_congr_left fun x hx=>?_
  simp only [Function.comp,mwO,mwL_noAddr _ _ (hos x hx)]
theorem Fc.lift1o {P : Program} {f n c : Nat} {cs : List Value} {os : List Ns1} {mk : List Value → List Value} {mkv : List Value → Value}
    (F:Fc P f (mk [.slice (some ⟨1,0,none⟩) n c]) (Hp 2 [none,some (.cells ⟨cs,0,false⟩)]) (mkv (newsAt 2 os)) (Hp 2 ([none,some (.cells ⟨cs,0,false⟩)]++(nsO os).map some)))
    (hmk:MkL mk) (hmv:MkV mkv) (hno:noAddrL cs = true) (hos : ∀ o∈os,noAddrL o.2.1 = true) {h:AH} {k sz:Nat} {op:Bool} (h0:h.sees 0 = true) (hg:h.get k = some (.cells ⟨cs,sz,op⟩)) :
    Fc P f (mk [.slice (some ⟨k,0,none⟩) n c]) h (mkv (newsAt h.next os)) (h.news (nsO os)) :=
 Fc.liftP (cs:=[(n,cs)]) (caps:=[c]) (ps:=[(k,0,false)]) F hmk hmv (fun p hp=>by simp at hp; subst hp; exact hno) hos h0 ⟨⟨get_sees hg,⟨_,hg,⟨[],by simp⟩,fun _=>Nat.zero_le _⟩⟩,⟨(fun e=>by cases e),trivial⟩⟩
def AtF (l2:Fr) (h2:AH):AEx→Fr→List Nat→AH→Prop:=fun e l ms h=>e = .normal∧ms = []∧h = h2∧subF l l2
theorem AtF.mk {l l2:Fr} {h2:AH} (hd:subF l l2):AtF l2 h2 .normal l [] h2:=⟨rfl,rfl,rfl,hd⟩
theorem ITri.atF {P:Program} {nt b:Nat} {rd:Option Nat} {ic:IC} {l l2:Fr} {h h2:AH} {Q:AEx→Fr→List Nat→AH→Prop} (T:ITri P nt rd b ic l [] h (AtF l2 h2)) (q:Q .normal l2 [] h2):ITri P nt rd b ic l [] h Q:=by
 refine ITri.cut (fun _:Unit=>l2) (fun _=>[]) (fun _=>h2) (fun _=>True) (T.mono ?_) (fun _ _=>q)
 rintro e l' ms h' ⟨rfl,rfl,rfl,hd⟩
 exact CutQ.mk () trivial (Wk.sub hd)
theorem seq_ex {σ:Type} (I:Nat→σ→Prop) (R:Nat→σ→σ→Prop) (n:Nat) (s0:σ) (h0:I 0 s0) (step : ∀ k s,k < n→I k s→∃ s',I (k + 1) s'∧R k s s') : ∃ f:Nat→σ,f 0 = s0∧(∀ k,k≤n→I k (f k))∧∀ k,k < n→R k (f k) (f (k + 1)):=by
 induction n with
 | zero => exact ⟨fun _ => s0, rfl, fun k hk => by obtain rfl : k = 0 := by omega
                                                   exact h0,fun k hk=>by omega⟩
 | succ n ih =>
  obtain ⟨f,f0,f1,f2⟩:=ih fun k s hk hI=>step k s (by omega) hI
  obtain ⟨s',i1,i2⟩:=step n (f n) (by omega) (f1 n (Nat.le_refl _))
  refine ⟨fun k=>if k≤n then f k else s',by show (if 0≤n then f 0 else s') = s0; rw [if_pos (Nat.zero_le _)]; exact f0,fun k hk=>?_,fun k hk=>?_⟩
  ·show I k (if k≤n then f k else s')
   by_cases h:k≤n
   ·rw [if_pos h]; exact f1 k h
   ·rw [if_neg h]
    obtain rfl:k = n + 1:=by omega
    exact i1
  ·show R k (if k≤n then f k else s') (if k + 1≤n then f (k + 1) else s')
   by_cases h:k + 1≤n
   ·rw [if_pos (by omega),if_pos h]; exact f2 k (by omega)
   ·rw [if_pos (by omega),if_neg h]
    obtain rfl:k = n:=by omega
    exact i2
theorem low_get {L T:List (Option AObj)} {k:Nat} {x:Option AObj} (h:L[k]? = some x):(L++T)[k]? = some x:=by rw [List.getElem?_append_left (List.getElem?_eq_some_iff.1 h).1]; exact h
theorem get_lt {L:List (Option AObj)} {k:Nat} {x:Option AObj} (h:L[k]? = some x):k < L.length:=(List.getElem?_eq_some_iff.1 h).1
end Go.Vm
