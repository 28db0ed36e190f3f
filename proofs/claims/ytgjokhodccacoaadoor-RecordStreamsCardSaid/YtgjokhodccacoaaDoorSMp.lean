import Derived.Test.YtgjokhodccacoaaDoorSMj
set_option linter.unusedSimpArgs false
set_option linter.unusedVariables false
namespace Go.Vm
open Go Go.RowKit
def iStepP (P:Program) (i:I) (l:Fr) (h:AH) (K:Value→AH→Prop):Prop :=
 match i with
 | .call f args=>match f.ev l,evs l args with
  | some (.func (.func g) first captured),some vs=>∃ v h',Fp P g (first.toList++vs++captured.toList) h v h'∧K v h'
  | _,_=>False
 | .gen (.panic x)=>match aEnv (trOf l) x with
  | some (.iface t u)=>noAddr u = true∧K (.iface t u) h
  | _=>False
 | _=>False
def iRowP (P:Program):Nat→List IOp→Fr→AH→(Fr→Value→AH→Prop)→Prop
 | 0,o :: _,l,h,K=>match o.g with
  | none=>iStepP P o.i l h (K l)
  | some (d,b)=>match lk l d with
   | some (.bool t)=>t = b∧iStepP P o.i l h (K l)
   | _=>False
 | n + 1,o :: r,l,h,K=>match o.g with
  | none=>iStep P o.w o.i l h fun v h'=>iRowP P n r (putF o.d v l) h' K
  | some (d,b)=>match lk l d with
   | some (.bool t)=>(t = b→iStep P o.w o.i l h fun v h'=>iRowP P n r (putF o.d v l) h' K)∧(t = !b→iRowP P n r (putF o.d undef l) h K)
   | some (.tuple _)=>iRowP P n r (putF o.d undef l) h K
   | _=>False
 | _,[],_,_,_=>False
section
variable {P:Program} {nt b:Nat} {rd:Option Nat} {l l' : Fr} {ms ms' : List Nat} {h h' : AH} {Q Q' : AEx→Fr→List Nat→AH→Prop} {ops:Array Oper}
theorem rI_gen {op op' : Op} (hr:rI P op = some (.gen op')):op' = op:=by
 cases op <;> simp only [rI] at hr <;> (repeat' split at hr) <;> first
  | (cases hr; done)
  | (injection hr with hr; injection hr with hr; exact hr.symm)
  | (simp at hr; done)
  | (simp at hr; exact hr.symm)
theorem rI_callv {op:Op} {f:X} {args:List X} (hr:rI P op = some (.call f args)) : ∃ c f0,op = .call c∧c.callee = .value f0∧rX f0 = some f∧rXs c.args.toList = some args:=by
 cases op with
 | call c =>
  simp only [rI] at hr
  split at hr
  ·rename_i as has
   split at hr
   ·rename_i f0 hf0
    split at hr
    ·rename_i x hx
     injection hr with hr
     injection hr with h1 h2
     subst h1 h2
     exact ⟨c,f0,rfl,hf0,hx,has⟩
    ·cases hr
   ·(repeat' split at hr) <;> cases hr
   ·cases hr
  ·cases hr
 | _ =>
  exfalso
  simp only [rI] at hr
  (repeat' split at hr) <;> first
   | (cases hr; done)
   | (simp at hr; done)
   | (simp_all; done)
theorem iStepP_sound {o:Oper} {i:I} {K:Value→AH→Prop} (hr:rI P o.op = some i) (hk:iStepP P i l h K) : ∃ v h',rStepP P (semC P) h (aEnv (trOf l)) o v h'∧K v h':=by
 unfold iStepP at hk
 split at hk
 ·rename_i f args
  obtain ⟨c,f0,e1,e2,e3,e4⟩:=rI_callv hr
  split at hk
  ·rename_i g first captured vs h1 h2
   obtain ⟨v,h',k1,k2⟩:=hk
   refine ⟨v,h',?_,k2⟩
   unfold rStepP
   rw [e1]
   exact ⟨vs,f0,g,first,captured,evs_of e4 h2,e2,ev_of e3 h1,k1⟩
  ·exact hk.elim
 ·rename_i x
  have e1:=rI_gen hr
  split at hk
  ·rename_i t u hu
   refine ⟨.iface t u,h,?_,hk.2⟩
   unfold rStepP
   rw [← e1]
   exact ⟨t,u,hu,hk.1,rfl,rfl⟩
  ·exact hk.elim
 ·exact hk.elim
theorem iRowP_sound : ∀ (os:List Oper) (n:Nat) (ios:List IOp) (l:Fr) (h:AH) (K:Fr→Value→AH→Prop),rRs P nt ops os = some (ios.map IOp.er)→iRowP P n ios l h K→∃ l' v h',rRowP P (semC P) nt ops os (trOf l) h v (trOf l') h'∧K l' v h':=by
 intro os
 induction os with
 | nil =>
  intro n ios l h K hr hk
  simp only [rRs,Option.some.injEq] at hr
  cases ios with
  | nil=>cases n <;> exact hk.elim
  | cons o r=>cases hr
 | cons o os ih =>
  intro n ios l h K hr hk
  simp only [rRs] at hr
  split at hr
  ·rename_i x xs hx hxs
   injection hr with hr
   cases ios with
   | nil=>cases hr
   | cons io r =>
    simp only [List.map_cons,List.cons.injEq] at hr
    obtain ⟨rfl,rfl⟩:=hr
    obtain ⟨q1,q2,q3,q4⟩:=rIO_parts hx
    cases n with
    | zero =>
     have step:iStepP P io.i l h (K l)→aWant ops (trOf l) o = some true→∃ l' v h',rRowP P (semC P) nt ops (o :: os) (trOf l) h v (trOf l') h'∧K l' v h':=by
      intro hs hw
      obtain ⟨v,h1,e1,e2⟩:=iStepP_sound (o:=o) q1 hs
      exact ⟨l,v,h1,.inr (.inl ⟨hw,e1,rfl⟩),e2⟩
     unfold iRowP at hk
     rcases q4 with ⟨g1,g2⟩|⟨j,b,d,g1,g2,g3⟩
     ·have g2' : io.g = none:=g2
      rw [g2'] at hk
      exact step hk (want_none g1)
     ·have g3' : io.g = some (d,b):=g3
      rw [g3'] at hk
      simp only at hk
      split at hk
      ·rename_i t ht
       have hw:=want_some g1 g2 ht
       obtain ⟨rfl,hk⟩:=hk
       exact step hk (by rw [hw]; simp)
      ·exact hk.elim
    | succ n =>
     have step:(iStep P io.w io.i l h fun v h'=>iRowP P n r (putF io.d v l) h' K)→aWant ops (trOf l) o = some true→∃ l' v h',rRowP P (semC P) nt ops (o :: os) (trOf l) h v (trOf l') h'∧K l' v h':=by
      intro hs hw
      obtain ⟨v,h1,e1,e2⟩:=iStep_sound (o:=o) q1 hs
      obtain ⟨l',v',h',e3,e4⟩:=ih n r _ _ _ hxs e2
      exact ⟨l',v',h',.inl ⟨hw,v,h1,_,e1,put_of q2 q3 v,e3⟩,e4⟩
     unfold iRowP at hk
     rcases q4 with ⟨g1,g2⟩|⟨j,b,d,g1,g2,g3⟩
     ·have g2' : io.g = none:=g2
      rw [g2'] at hk
      exact step hk (want_none g1)
     ·have g3' : io.g = some (d,b):=g3
      rw [g3'] at hk
      simp only at hk
      split at hk
      ·rename_i t ht
       have hw:=want_some g1 g2 ht
       by_cases htb:t = b
       ·subst htb
        exact step (hk.1 rfl) (by rw [hw]; simp)
       ·have htb' : t = !b:=ne_not htb
        obtain ⟨l',v',h',e3,e4⟩:=ih n r _ _ _ hxs (hk.2 htb')
        exact ⟨l',v',h',.inr (.inr ⟨by rw [hw]; simp [htb],_,put_of q2 q3 undef,e3⟩),e4⟩
      ·rename_i a ht
       have hw:=want_tup g1 g2 ht
       obtain ⟨l',v',h',e3,e4⟩:=ih n r _ _ _ hxs hk
       exact ⟨l',v',h',.inr (.inr ⟨hw,_,put_of q2 q3 undef,e3⟩),e4⟩
      ·exact hk.elim
  ·cases hr
theorem Tri.rowP {id:Nat} {t t' : Tr Value} {v:Value} {Q:AEx→Tr Value→List Nat→AH→Prop} (hnm:namesOk P = true) (e:rRowP P (semC P) nt ops ops.toList t h v t' h') (q:Q (.pan v) t' ms h'):Tri P nt rd b (.region id ops false) t ms h Q:=by
 intro K rc w0 φ κ w a B R D M A hk
 refine wpIn_region_list (rRowP_sound hnm (semC_ok P) _ _ _ _ _ _ e w0 φ κ w a R A fun φ' κ' w' a' S A'=>?_)
 obtain ⟨M',m'⟩:=M.step S
 exact hk _ _ _ _ φ' κ' w' a' q (.of S B) (D.step S) M' (A'.ds m'.symm)
theorem ITri.regP {ops:List IOp} {live:Option (List Nat)} (n:Nat) (ok:POk P) (T:iRowP P n ops l h fun l' v h'=>Q (.pan v) l' ms h'):ITri P nt rd b (.reg ops live) l ms h Q:=by
 intro c hc
 replace hc:=hc.resolve_right (by intro e; cases e)
 cases c with
 | region id os d =>
  cases d with
  | true=>simp only [rC,IC.er] at hc; (repeat' split at hc) <;> simp at hc
  | false =>
   simp only [rC,IC.er,Option.map_eq_some_iff,EC.reg.injEq] at hc
   obtain ⟨x,hx,rfl⟩:=hc
   obtain ⟨l',v,h',e1,e2⟩:=iRowP_sound _ _ _ _ _ _ hx T
   exact Tri.rowP ok.names e1 ⟨l',rfl,e2⟩
 | seq x y=>simp only [rC,IC.er] at hc; split at hc <;> cases hc
 | cond x y z=>simp only [rC,IC.er] at hc; split at hc <;> cases hc
 | rangeFunc f ps x y=>simp only [rC,IC.er] at hc; split at hc <;> cases hc
 | _=>simp [rC,IC.er] at hc
theorem SeqQ_pan {v:Value} {y:IC}:SeqQ P nt rd b y Q (.pan v) l ms h = Q (.pan v) l ms h:=rfl
theorem BlkQ_pan {v:Value} {id:Nat}:BlkQ id Q (.pan v) l ms h = Q (.pan v) l ms h:=rfl
theorem LoopQ_pan {ι:Type} {S:ι→Fr} {M:ι→List Nat} {H:ι→AH} {J:ι→Prop} {μ:ι→Nat} {i:ι} {v:Value}:LoopQ nt b rd S M H J μ i Q (.pan v) l ms h = Q (.pan v) l ms h:=rfl
theorem CutQ_pan {ι:Type} {S:ι→Fr} {M:ι→List Nat} {H:ι→AH} {J:ι→Prop} {v:Value}:CutQ nt b rd S M H J Q (.pan v) l ms h = Q (.pan v) l ms h:=rfl
variable {K:Fr→Value→AH→Prop} {n d g:Nat} {x:Option Nat} {t wr:Bool} {i:I} {r:List IOp}
theorem iRowP_0:iRowP P 0 (⟨x,none,wr,i⟩ :: r) l h K = iStepP P i l h (K l):=rfl
theorem iRowP_s:iRowP P (n + 1) (⟨x,none,wr,i⟩ :: r) l h K = iStep P wr i l h fun v h'=>iRowP P n r (putF x v l) h' K:=rfl
theorem iRowP_on (hl:lk l g = some (.bool t)):iRowP P (n + 1) (⟨x,some (g,t),wr,i⟩ :: r) l h K = iStep P wr i l h fun v h'=>iRowP P n r (putF x v l) h' K:=by
 rw [iRowP]; simp [hl]
theorem iRowP_off (hl:lk l g = some (.bool !t)):iRowP P (n + 1) (⟨x,some (g,t),wr,i⟩ :: r) l h K = iRowP P n r (putF x undef l) h K:=by
 rw [iRowP]; simp only [hl]; cases t <;> simp
theorem iRowP_un (hl:lk l g = some (.tuple #[])):iRowP P (n + 1) (⟨x,some (g,t),wr,i⟩ :: r) l h K = iRowP P n r (putF x undef l) h K:=by
 rw [iRowP]; simp only [hl]
variable {Kv:Value→AH→Prop}
theorem iStepP_call {f : X} {args : List X} : iStepP P (.call f args) l h Kv = (match f.ev l, evs l args with
    | some (.func (.func g) first captured),some vs=>∃ v h',Fp P g (first.toList++vs++captured.toList) h v h'∧Kv v h'
    | _,_=>False):=rfl
theorem iStepP_tmp {s ty:Nat} {u:Value} (hs:lk l s = some (.iface ty u)) (hu:noAddr u = true):iStepP P (.gen (.panic (.tmp s))) l h Kv = Kv (.iface ty u) h:=by
 have e:aEnv (trOf l) (.tmp s) = some (.iface ty u):=by simp only [aEnv,trOf_get,hs]
 simp only [iStepP,e,hu,true_and]
end
def EndP (v:Value) (h' : AH) (e:AEx) (l:Fr) (ms:List Nat) (h1:AH):Prop:=e = .pan v∧ms = []∧h1 = h'
theorem EndP.mk {v:Value} {h' h1:AH} {l:Fr} (hh:h1 = h'):EndP v h' (.pan v) l [] h1:=⟨rfl,rfl,hh⟩
theorem argF_rel {P : Program} {φ : Nat → Nat × Nat} {κ : Nat → Nat} {h : AH} {args : List Value} {nt : Nat} (hl : args.length ≤ nt) (ha : ∀ x ∈ args, okV h.N κ x) :
    ARel φ κ h.N nt (trOf (argF 0 args)) [] { tmps:=(args.map (ren φ κ)).toArray++Array.replicate (nt - (args.map (ren φ κ)).toArray.size) undef,defers:=[] }:=by
 refine ⟨rfl,by simp; omega,fun d v hd=>?_,fun d v hd=>?_⟩
 ·rw [trOf_get,argF_get] at hd
  split at hd
  ·rename_i hlt
   rw [Array.getElem?_append_left (by simp; omega)]
   rw [Nat.sub_zero] at hd
   simp [hd]
  ·cases hd
 ·rw [trOf_get,argF_get] at hd
  split at hd
  ·exact ha _ (List.mem_of_getElem? hd)
  ·cases hd
theorem Fp.introX {P:Program} {f nt:Nat} {ic:IC} {rs:List ResultVar} {args:List Value} {h h' : AH} {v:Value} (F:FnIs P f ic nt rs) (hl:args.length≤nt) (hg:h.wlim≤h.next→Grow h h') (T:ITri P nt none h.next ic (argF 0 args) [] h (EndP v h')):Fp P f args h v h':=by
 obtain ⟨fn,body,hf,hb,hnt,hrs,hic⟩:=F.ex
 subst hnt hrs
 refine ⟨hg,⟨fn,body,hf,hb⟩,fun w0 φ κ w R ha=>?_⟩
 refine callsIn_wide.1 (callsIn_of_wp_marks (F:=Fence.wide) (n:=0) hf hb trivial ?_ rfl)
 refine T body (.inl hic) _ ⟨none,[]⟩ w0 φ κ w _ (Nat.le_refl _) R trivial (fun m hm=>by cases hm) (argF_rel (P:=P) hl ha) ?_
 rintro e t' ms' h1 φ1 κ1 w1 a1 ⟨l',rfl,rfl,rfl,rfl⟩ S1 D1 M1 A1
 show LeavesInM Fence.wide 0 P fn a1.tmps _ a1.defers (.panicking _) w1
 have hds:a1.defers = []:=A1.defers
 rw [hds]
 exact ⟨_,_,rfl,S1.fix⟩
inductive DC where
 | seq (a:IC) (b:DC)
 | dfr (ops:List IOp) (live:Option (List Nat)) (f:X) (args:List X) (d:Option Nat) (y:IC)
inductive ED where
 | seq (a:EC) (b:ED)
 | dfr (ops:List (Option Nat×Option (Nat×Bool)×I)) (f:X) (args:List X) (d:Option Nat) (y:EC)
def DC.er:DC→ED
 | .seq a b=>.seq a.er b.er
 | .dfr ops _ f args d y=>.dfr (ops.map IOp.er) f args d y.er
def rDC (P:Program) (nt:Nat):Code→Option ED
 | .seq x y=>match dfOf x with
  | some (os,r,o,c)=>match rRs P nt os r,rXs c.args.toList,c.callee,rC P nt y with
   | some a,some b,.value f,some z=>match rX f with
    | some fx=>if dstOk nt o.dst then some (.dfr a fx b o.dst z) else none
    | none=>none
   | _,_,_,_=>none
  | none=>match rC P nt x,rDC P nt y with
   | some a,some b=>some (.seq a b)
   | _,_=>none
 | _=>none
theorem rRow_then {P : Program} {nt : Nat} {C : CallR} (hnm : namesOk P = true) (ok : CallOk P C) {ops : Array Oper} {rd : Option Nat} {ds : List Deferred} {Q : Exit → Act → World → Prop} (s : List Oper) : ∀ (l : List Oper) (t : Tr Value) (h : AH) (t' : Tr Value) (h' : AH), rRow P C nt ops l t h t' h' →
    ∀ w0 φ κ w a,Rel w0 φ κ h w→ARel φ κ h.N nt t ds a→(∀ φ' κ' w' a',Step w0 φ κ h φ' κ' h' w'→ARel φ' κ' h'.N nt t' ds a'→wpListIn (fen rd) 0 P ops Q s a' w')→wpListIn (fen rd) 0 P ops Q (l++s) a w:=by
 intro l
 induction l with
 | nil =>
  intro t h t' h' e w0 φ κ w a R A hq
  obtain ⟨rfl,rfl⟩:=e
  exact hq φ κ w a R.step A
 | cons o r ih =>
  intro t h t' h' e w0 φ κ w a R A hq
  rw [List.cons_append]
  unfold wpListIn
  rcases e with ⟨hw,v,h1,t1,hs,hp,e⟩|⟨hw,t1,hp,e⟩
  ·rw [A.want hw,if_pos rfl]
   refine rStep_sound hnm ok R A.env hs fun φ1 κ1 w1 S1 o1=>?_
   exact ih _ _ _ _ e w0 φ1 κ1 w1 _ S1.rel ((A.step S1).put hp o1) fun φ' κ' w' a' S A'=>hq φ' κ' w' a' (S1.trans S) A'
  ·rw [A.want hw,if_neg (by simp)]
   have:=A.put hp (ok_undef (κ:=κ))
   rw [ren_undef] at this
   exact ⟨fun f _=>fen_fn rd f,ih _ _ _ _ e w0 φ κ w _ R this hq⟩
theorem Stb.low {b b' : Nat} {w0 w' : World} {φ φ' : Nat→Nat×Nat} {κ κ' : Nat→Nat} {h h' : AH} (S:Stb b' w0 φ κ h φ' κ' h' w') (hb:b≤b'):Stb b w0 φ κ h φ' κ' h' w' :=
 ⟨fun k hk=>S.agr k (by omega),S.rel,Nat.le_trans hb S.next,S.hid,S.wlim,S.keep⟩
def DTri (P:Program) (nt b:Nat) (d:DC) (l:Fr) (h:AH) (Q:Option (Nat×List Value)→AEx→Fr→AH→Prop):Prop :=
 ∀ c,rDC P nt c = some d.er→∀ (K:Exit→Act→World→Prop) w0 φ κ w a,b≤h.next→Rel w0 φ κ h w→ARel φ κ h.N nt (trOf l) [] a →
  (∀ th e l' h' φ' κ' w' a',Q th e l' h'→Stb b w0 φ κ h φ' κ' h' w'→ARel φ' κ' h'.N nt (trOf l') a'.defers a'→ThOK P φ' κ' h'.N th a'.defers→K e.toExit a' w')→c.wpIn Fence.wide 0 P K a w
def DSeqQ (P:Program) (nt b:Nat) (y:DC) (Q:Option (Nat×List Value)→AEx→Fr→AH→Prop) (e:AEx) (l:Fr) (ms:List Nat) (h:AH):Prop :=
 match e with
 | .normal=>ms = []∧DTri P nt b y l h Q
 | e=>ms = []∧Q none e l h
section
variable {P:Program} {nt b:Nat} {l:Fr} {h:AH} {Q:Option (Nat×List Value)→AEx→Fr→AH→Prop}
theorem DTri.seq {x:IC} {y:DC} (T:ITri P nt none b x l [] h (DSeqQ P nt b y Q)):DTri P nt b (.seq x y) l h Q:=by
 intro c hc K w0 φ κ w a B R A hk
 cases c with
 | seq c1 c2 =>
  simp only [rDC,DC.er] at hc
  split at hc
  ·split at hc
   ·split at hc
    ·split at hc <;> cases hc
    ·cases hc
   ·cases hc
  ·split at hc
   ·rename_i a1 b1 h1 h2
    injection hc with hc
    injection hc with e1 e2
    subst e1 e2
    refine wpIn_seq (T c1 (.inl h1) _ ⟨none,[]⟩ w0 φ κ w a B R trivial (fun m hm=>by cases hm) (by simpa [mkD] using A) fun e t1 ms1 h1 φ1 κ1 w1 a1 q S1 D1 M1 A1=>?_)
    obtain ⟨l1,rfl,q⟩:=q
    cases e with
    | normal =>
     obtain ⟨rfl,q⟩:=q
     have A1' : ARel φ1 κ1 h1.N nt (trOf l1) [] a1:=by simpa [mkD] using A1
     exact q c2 h2 K w0 φ1 κ1 w1 a1 S1.next S1.rel A1' fun th e l2 h2 φ2 κ2 w2 a2 q2 S2 A2 T2=>hk th e l2 h2 φ2 κ2 w2 a2 q2 (S1.trans S2) A2 T2
    | exit id =>
     obtain ⟨rfl,q⟩:=q
     have A1' : ARel φ1 κ1 h1.N nt (trOf l1) [] a1:=by simpa [mkD] using A1
     exact hk none (.exit id) l1 h1 φ1 κ1 w1 a1 q S1 (A1'.defers ▸ A1') A1'.defers
    | ret =>
     obtain ⟨rfl,q⟩:=q
     have A1' : ARel φ1 κ1 h1.N nt (trOf l1) [] a1:=by simpa [mkD] using A1
     exact hk none .ret l1 h1 φ1 κ1 w1 a1 q S1 (A1'.defers ▸ A1') A1'.defers
    | pan v =>
     obtain ⟨rfl,q⟩:=q
     have A1' : ARel φ1 κ1 h1.N nt (trOf l1) [] a1:=by simpa [mkD] using A1
     exact hk none (.pan v) l1 h1 φ1 κ1 w1 a1 q S1 (A1'.defers ▸ A1') A1'.defers
   ·cases hc
 | _=>simp [rDC] at hc
def DfrK (P:Program) (nt b:Nat) (fx:X) (args:List X) (live:Option (List Nat)) (d:Option Nat) (y:IC) (Q:Option (Nat×List Value)→AEx→Fr→AH→Prop) (l1:Fr) (h1:AH):Prop :=
 ∃ g first captured vs,fx.ev l1 = some (.func (.func g) first captured)∧evs l1 args = some vs ∧
  ITri P nt none h1.next y (liveF live (putF d undef l1)) [] h1 fun e l' ms h'=>ms = []∧Q (some (g,first.toList++vs++captured.toList)) e l' h'
theorem DTri.dfr {ops:List IOp} {live:Option (List Nat)} {fx:X} {args:List X} {d:Option Nat} {y:IC} (pok:POk P) (T:iRow P ops l h (DfrK P nt b fx args live d y Q)):DTri P nt b (.dfr ops live fx args d y) l h Q:=by
 intro c hc K w0 φ κ w a B R A hk
 cases c with
 | seq c1 c2 =>
  simp only [rDC,DC.er] at hc
  split at hc
  ·rename_i os r o cl hdf
   split at hc
   ·rename_i a0 b0 f z h1 h2 h3 h4
    split at hc
    ·rename_i fx0 h5
     split at hc
     ·rename_i h6
      injection hc with hc
      injection hc with e1 e2 e3 e4 e5
      subst e1 e2 e3 e4 e5
      obtain ⟨id,rfl,hops,hop,hgd⟩:=dfOf_spec hdf
      obtain ⟨l1,H1,e1,g,first,captured,args',e2,e3,e4⟩:=iRow_sound _ _ _ _ _ h1 T
      refine wpIn_seq (wpIn_region_list ?_)
      rw [hops]
      refine rRow_then (rd:=none) pok.names (semC_ok P) [o] _ _ _ _ _ e1 w0 φ κ w a R A fun φ1 κ1 w1 a1 S1 A1=>?_
      have hargs:=evs_of h2 e3
      have hfv:=ev_of h5 e2
      obtain ⟨a1r,a2r⟩:=aArgs_sound A1.env _ _ hargs
      obtain ⟨f1,f2⟩:=A1.env f _ hfv
      have ha' : cl.args.map a1.eval = (args'.map (ren φ1 κ1)).toArray:=by apply Array.ext'; simpa using a1r
      unfold wpListIn
      have hwant:Region.wanted o (yielded os a1.tmps) = true:=by unfold Region.wanted; rw [hgd]
      rw [if_pos hwant]
      refine ⟨fun f _=>fen_fn none f,?_⟩
      have hres:(resolve a1.eval cl o.type).run P w1 = .ok { target:=.fn (.func g) (renA φ1 κ1 captured),args:=renA φ1 κ1 first++(args'.map (ren φ1 κ1)).toArray } w1:=by
       unfold resolve
       rw [ha',h3]
       simp only [f1,ren,renF,Deferred.ofValue]
       rfl
      have hex:(Oper.semAt (fen none).round a1.eval o).run P w1 = .ok (.defer { target:=.fn (.func g) (renA φ1 κ1 captured),args:=renA φ1 κ1 first++(args'.map (ren φ1 κ1)).toArray }) w1:=by
       show (execOp a1.eval o).run P w1 = _
       unfold execOp
       rw [hop]
       simp only [Sem.run_bind,hres,Result.andThen_ok,Sem.run_pure]
      rw [hex,Oper.uponIn_defer]
      unfold wpListIn
      have hokc : ∀ x∈first.toList++args'++captured.toList,okV H1.N κ1 x:=by
       intro x hx
       simp only [okV] at f2
       rcases List.mem_append.1 hx with hx|hx
       ·rcases List.mem_append.1 hx with hx|hx
        ·exact okA_iff.1 f2.2.1 x hx
        ·exact a2r x hx
       ·exact okA_iff.1 f2.2.2 x hx
      have T1:ThOK P φ1 κ1 H1.N (some (g,first.toList++args'++captured.toList)) [{ target:=.fn (.func g) (renA φ1 κ1 captured),args:=renA φ1 κ1 first++(args'.map (ren φ1 κ1)).toArray }]:=by
       refine ⟨hokc,_,_,_,rfl,rfl,fun fn c hf hb w2=>?_⟩
       simp only [invoke]
       rw [callFunc_run pok.names hf hb]
       have hargs:renA φ1 κ1 first++(args'.map (ren φ1 κ1)).toArray++renA φ1 κ1 captured = ((first.toList++args'++captured.toList).map (ren φ1 κ1)).toArray:=by
        rw [renA_map,renA_map]
        apply Array.ext'
        simp
       rw [hargs]
      have hput:aPut nt (trOf l1) o.dst undef = some (trOf (putF o.dst undef l1)):=put_of rfl (fun d hd=>by rw [hd] at h6; exact of_decide_eq_true h6) undef
      have A2:=A1.put hput (ok_undef (κ:=κ1))
      rw [ren_undef] at A2
      have A3:ARel φ1 κ1 H1.N nt (trOf (putF o.dst undef l1)) [{ target:=.fn (.func g) (renA φ1 κ1 captured),args:=renA φ1 κ1 first++(args'.map (ren φ1 κ1)).toArray }] (Act.put { a1 with defers:={ target:=.fn (.func g) (renA φ1 κ1 captured),args:=renA φ1 κ1 first++(args'.map (ren φ1 κ1)).toArray } :: a1.defers } o.dst undef):=by
       have hd:a1.defers = []:=A1.defers
       rw [hd]
       cases hdst:o.dst with
       | none=>rw [hdst] at A2; exact ⟨rfl,A2.size,A2.get,A2.ok⟩
       | some d=>rw [hdst] at A2; exact ⟨rfl,A2.size,A2.get,A2.ok⟩
      have A4:ARel φ1 κ1 H1.N nt (trOf (liveF live (putF o.dst undef l1))) _ _:=⟨A3.defers,A3.size,fun d v e=>A3.get d v (by rw [trOf_get] at *; exact liveF_get _ _ _ _ e),fun d v e=>A3.ok d v (by rw [trOf_get] at *; exact liveF_get _ _ _ _ e)⟩
      have B1:b≤H1.next:=Nat.le_trans B S1.next
      refine e4 c2 (.inl h4) K ⟨none,[{ target:=.fn (.func g) (renA φ1 κ1 captured),args:=renA φ1 κ1 first++(args'.map (ren φ1 κ1)).toArray }]⟩ w0 φ1 κ1 w1 _ (Nat.le_refl _) S1.rel trivial (fun m hm=>by cases hm) (by simpa [mkD] using A4) ?_
      rintro e t2 ms2 h2 φ2 κ2 w2 a2 ⟨l2,rfl,rfl,q⟩ S2 D2 M2 A5
      have A5' : ARel φ2 κ2 h2.N nt (trOf l2) [{ target:=.fn (.func g) (renA φ1 κ1 captured),args:=renA φ1 κ1 first++(args'.map (ren φ1 κ1)).toArray }] a2:=by simpa [mkD] using A5
      have S2f:=S2.fix
      have hag : ∀ k,h2.N k→(fun k=>if k < h2.next then φ2 k else φ1 k) k = φ2 k∧(fun k=>if k < h2.next then κ2 k else κ1 k) k = κ2 k:=fun k hk=>⟨if_pos (sees_lt hk),if_pos (sees_lt hk)⟩
      have T2:=T1.step S2f
      have T3:ThOK P φ2 κ2 h2.N (some (g,first.toList++args'++captured.toList)) [{ target:=.fn (.func g) (renA φ1 κ1 captured),args:=renA φ1 κ1 first++(args'.map (ren φ1 κ1)).toArray }]:=by
       obtain ⟨t1,dd,fv,capt,t2,t3,t4⟩:=T2
       refine ⟨fun x hx=>ok_mono (fun _ y=>y) (fun k hk=>(hag k hk).2.symm) x (t1 x hx),dd,fv,capt,t2,t3,fun fn c hf hb w3=>?_⟩
       rw [t4 fn c hf hb w3]
       have:(first.toList++args'++captured.toList).map (ren (fun k=>if k < h2.next then φ2 k else φ1 k) (fun k=>if k < h2.next then κ2 k else κ1 k)) = (first.toList++args'++captured.toList).map (ren φ2 κ2):=List.map_congr_left fun x hx=>ren_congr hag x (ok_mono (fun _ y=>y) (fun k hk=>(hag k hk).2.symm) x (t1 x hx))
       rw [this]
      exact hk _ e l2 h2 φ2 κ2 w2 a2 q ((Stb.of S1 B).trans (S2.low B1)) (A5'.defers ▸ A5') (A5'.defers ▸ T3)
     ·cases hc
    ·cases hc
   ·cases hc
  ·split at hc
   ·injection hc with hc; cases hc
   ·cases hc
 | _=>simp [rDC] at hc
end
structure Th (P:Program) (g:Nat) (cap:List Value) (v:Value) (h:AH) (Z:AH→Prop):Prop where
 body : ∃ fn c,P.funcs[g]? = some fn∧fn.body = some c
 run : ∀ w0 φ κ w,Rel w0 φ κ h w→(∀ x∈cap,okV h.N κ x)→∀ (u u' : FrameMode),
  (∀ (c0:Frame) (cs:List Frame),c0.mode = u→recoverD (c0 :: cs) = some (v,{ c0 with mode:=u' } :: cs)∨(recoverD (c0 :: cs) = none∧v = .nilIface∧{ c0 with mode:=u' } :: cs = c0 :: cs)) →
  CallsDIn Fence.wide 0 P g (cap.map (ren φ κ)).toArray u w fun e u2 w'=>(∃ x,e = .returned x)∧u2 = u'∧∃ h2 φ' κ',Z h2∧Step w0 φ κ h φ' κ' h2 w'
def EndT (P:Program) (rs:List ResultVar) (Z:AH→Prop) (e:AEx) (l:Fr) (ms:List Nat) (h:AH):Prop:=noX e∧ms = []∧(∃ vs,resF P l h rs = some vs)∧Z h
theorem EndT.mk {P:Program} {rs:List ResultVar} {Z:AH→Prop} {e:AEx} {l:Fr} {h:AH} {vs:List Value} (he:noX e) (hr:resF P l h rs = some vs) (hz:Z h):EndT P rs Z e l [] h:=⟨he,rfl,⟨vs,hr⟩,hz⟩
theorem argTr_put {j:Nat} {v:Value} : ∀ (args:List Value) (i:Nat) (t:Tr Value),j < i→argTr i args (t.put j v) = (argTr i args t).put j v
 | [],_,_,_=>rfl
 | x :: r,i,t,h=>by
  simp only [argTr]
  rw [put_comm _ _ _ (by omega),argTr_put r (i + 1) _ (by omega)]
theorem argTr_argF : ∀ (args:List Value) (i:Nat),argTr i args .leaf = trOf (argF i args)
 | [],_=>rfl
 | x :: r,i=>by
  simp only [argTr,argF,trOf]
  rw [argTr_put r (i + 1) _ (by omega),argTr_argF r (i + 1)]
def recD (P:Program) (nt:Nat) (v:Value) (os:Array Oper):Option (List ((Option Nat×Option (Nat×Bool)×I)×Bool×Nat×Nat)) :=
 match recAt os with
 | some _=>if slotsOk (recOps v os) (masks [] (recOps v os).toList) then rDs P nt (recOps v os) (masks [] (recOps v os).toList) 0 0 (recOps v os).toList else none
 | none=>none
def rTh (P:Program) (nt:Nat) (v:Value):Code→Option (List ((Option Nat×Option (Nat×Bool)×I)×Bool×Nat×Nat)×List EC)
 | .region _ os true=>match recD P nt v os with
  | some a=>some (a,[])
  | none=>none
 | .seq (.region _ os true) y=>match recD P nt v os,rC P nt y with
  | some a,some y=>some (a,[y])
  | _,_=>none
 | .seq (.seq (.region _ os true) x) y=>match recD P nt v os,rC P nt x,rC P nt y with
  | some a,some x,some y=>some (a,[x,y])
  | _,_,_=>none
 | _=>none
structure ThIs (P:Program) (g:Nat) (v:Value) (ops:List (IOp×Bool×Nat×Nat)) (ys:List IC) (nt:Nat) (rs:List ResultVar):Prop where
 ex : ∃ fn body,P.funcs[g]? = some fn∧fn.body = some body∧fn.ntmps = nt∧fn.results.toList = rs∧rTh P nt v body = some (ops.map IOp.erd,ys.map IC.er)
def ThK (P:Program) (nt b:Nat) (rs:List ResultVar) (Z:AH→Prop):List IC→Fr→AH→Prop
 | [],l,h=>EndT P rs Z .normal l [] h
 | [y],l,h=>ITri P nt none b y l [] h (EndT P rs Z)
 | [x,y],l,h=>ITri P nt none b x l [] h fun e l' ms h'=>e = .normal∧ms = []∧ITri P nt none b y l' [] h' (EndT P rs Z)
 | _,_,_=>False
theorem recD_parts {P : Program} {nt : Nat} {v : Value} {os : Array Oper} {a : List ((Option Nat × Option (Nat × Bool) × I) × Bool × Nat × Nat)} (h : recD P nt v os = some a) :
    ∃ ri,recAt os = some ri∧slotsOk (recOps v os) (masks [] (recOps v os).toList) = true∧rDs P nt (recOps v os) (masks [] (recOps v os).toList) 0 0 (recOps v os).toList = some a:=by
 unfold recD at h
 split at h
 ·rename_i ri hri
  split at h
  ·rename_i hs
   exact ⟨ri,hri,hs,h⟩
  ·cases h
 ·cases h
theorem Th.intro {P : Program} {g nt : Nat} {v : Value} {ops : List (IOp × Bool × Nat × Nat)} {ys : List IC} {rs : List ResultVar} {cap : List Value} {h : AH} {Z : AH → Prop} (pok : POk P) (F : ThIs P g v ops ys nt rs) (hl : cap.length ≤ nt)
    (T:iDraw P 0 ops (argF 0 cap) h [] (ThK P nt h.next rs Z ys)):Th P g cap v h Z:=by
 obtain ⟨fn,body,hf,hb,hnt,hrs,hic⟩:=F.ex
 subst hnt hrs
 refine ⟨⟨fn,body,hf,hb⟩,fun w0 φ κ w R ha u u' hu=>?_⟩
 have reg : ∀ os,recD P fn.ntmps v os = some (ops.map IOp.erd)→∃ ri l1 h1,recAt os = some ri∧rRegion P (semC P) fn.ntmps (recOps v os) (argTr 0 cap .leaf) h (trOf l1) h1∧ThK P fn.ntmps h.next fn.results.toList Z ys l1 h1:=by
  intro os hx
  obtain ⟨ri,h1,h2,h3⟩:=recD_parts hx
  obtain ⟨l',h',e1,e2⟩:=iDraw_sound _ _ _ _ _ [] _ R.wl h3 T
  rw [argTr_argF]
  exact ⟨ri,l',h',h1,⟨h2,0,[],by unfold frOK; rw [List.all_eq_true]; intro p _; simp,⟨fun p hp=>(by cases hp),fun p hp=>(by cases hp)⟩,e1⟩,e2⟩
 have fin : ∀ {e : AEx} {l1 : Fr} {h1 : AH} {φ1 : Nat → Nat × Nat} {κ1 : Nat → Nat} {w1 : World} {a1 : Act}, EndT P fn.results.toList Z e l1 [] h1 → Stb h.next w0 φ κ h φ1 κ1 h1 w1 → ARel φ1 κ1 h1.N fn.ntmps (trOf l1) [] a1 →
     (e.toExit = .normal∨e.toExit = .ret)∧a1.defers = []∧∃ x,(results fn a1.tmps).run P w1 = .ok x w1∧∃ h2 φ' κ',Z h2∧Step w0 φ κ h φ' κ' h2 w1:=by
  rintro e l1 h1 φ1 κ1 w1 a1 ⟨q1,_,⟨vs,q2⟩,q3⟩ S1 A1
  obtain ⟨r1,_⟩:=results_sound (P:=P) (fn:=fn) (l:=vs) A1 S1.rel (by rw [resF_eq]; exact q2)
  refine ⟨?_,A1.defers,_,r1,h1,_,_,q3,S1.fix⟩
  cases e with
  | normal=>exact .inl rfl
  | ret=>exact .inr rfl
  | exit id=>exact q1.elim
  | pan u=>exact q1.elim
 unfold rTh at hic
 split at hic
 ·rename_i id os
  split at hic
  ·rename_i a ha0
   simp only [Option.some.injEq,Prod.mk.injEq] at hic
   obtain ⟨rfl,hys⟩:=hic
   obtain ⟨ri,l1,h1,q1,q2,q3⟩:=reg os ha0
   cases ys with
   | cons y r=>cases hys
   | nil =>
    refine thunk_calls0 (Rr:=fun w'=>∃ h2 φ' κ',Z h2∧Step w0 φ κ h φ' κ' h2 w') pok.mixed pok.names (semC_ok P) hf hb q1 hl q2 R ha hu fun φ1 κ1 w1 a1 S1 A1=>?_
    exact (fin q3 (.of S1 (Nat.le_refl _)) A1).2
  ·cases hic
 ·rename_i id os y
  split at hic
  ·rename_i a y' ha0 hy0
   simp only [Option.some.injEq,Prod.mk.injEq] at hic
   obtain ⟨rfl,hys⟩:=hic
   obtain ⟨ri,l1,h1,q1,q2,q3⟩:=reg os ha0
   match ys,hys,q3 with
   | [yy],hys,q3 =>
    simp only [List.map_cons,List.map_nil,List.cons.injEq,and_true] at hys
    subst hys
    refine thunk_calls (Rr:=fun w'=>∃ h2 φ' κ',Z h2∧Step w0 φ κ h φ' κ' h2 w') pok.mixed pok.names (semC_ok P) hf hb q1 hl q2 R ha hu fun φ1 κ1 w1 a1 S1 A1=>?_
    have S1':=Stb.of S1 (Nat.le_refl _)
    refine q3 y (.inl hy0) _ ⟨none,[]⟩ w0 φ1 κ1 w1 a1 S1'.next S1.rel trivial (fun m hm=>by cases hm) (by simpa [mkD] using A1) ?_
    rintro e t2 ms2 h2 φ2 κ2 w2 a2 ⟨l2,rfl,q⟩ S2 D2 M2 A2
    obtain rfl:ms2 = []:=q.2.1
    exact fin q (S1'.trans S2) (by simpa [mkD] using A2)
  ·cases hic
 ·rename_i id os x y
  split at hic
  ·rename_i a x' y' ha0 hx0 hy0
   simp only [Option.some.injEq,Prod.mk.injEq] at hic
   obtain ⟨rfl,hys⟩:=hic
   obtain ⟨ri,l1,h1,q1,q2,q3⟩:=reg os ha0
   match ys,hys,q3 with
   | [xx,yy],hys,q3 =>
    simp only [List.map_cons,List.map_nil,List.cons.injEq,and_true] at hys
    obtain ⟨rfl,rfl⟩:=hys
    refine thunk_calls2 (Rr:=fun w'=>∃ h2 φ' κ',Z h2∧Step w0 φ κ h φ' κ' h2 w') pok.mixed pok.names (semC_ok P) hf hb q1 hl q2 R ha hu fun φ1 κ1 w1 a1 S1 A1=>?_
    have S1':=Stb.of S1 (Nat.le_refl _)
    refine q3 x (.inl hx0) _ ⟨none,[]⟩ w0 φ1 κ1 w1 a1 S1'.next S1.rel trivial (fun m hm=>by cases hm) (by simpa [mkD] using A1) ?_
    rintro e t2 ms2 h2 φ2 κ2 w2 a2 ⟨l2,rfl,rfl,rfl,q⟩ S2 D2 M2 A2
    refine ⟨rfl,?_⟩
    have S12:=S1'.trans S2
    refine q y (.inl hy0) _ ⟨none,[]⟩ w0 φ2 κ2 w2 a2 S12.next S12.rel trivial (fun m hm=>by cases hm) A2 ?_
    rintro e t3 ms3 h3 φ3 κ3 w3 a3 ⟨l3,rfl,q⟩ S3 D3 M3 A3
    obtain rfl:ms3 = []:=q.2.1
    exact fin q (S12.trans S3) (by simpa [mkD] using A3)
  ·cases hic
 ·cases hic
structure FnD (P:Program) (f:Nat) (dc:DC) (nt:Nat) (rs:List ResultVar):Prop where
 ex : ∃ fn body,P.funcs[f]? = some fn∧fn.body = some body∧fn.ntmps = nt∧fn.results.toList = rs∧rDC P nt body = some dc.er
def panV:AEx→Value
 | .pan v=>v
 | _=>.nilIface
def EndD (P:Program) (rs:List ResultVar) (v:Value) (h' : AH) (th:Option (Nat×List Value)) (e:AEx) (l:Fr) (h1:AH):Prop:=match th with
 | none=>EndX P rs v h' e l [] h1
 | some (g,cap)=>(∀ id,e≠.exit id)∧Th P g cap (panV e) h1 fun h2=>∃ vs,resF P l h2 rs = some vs∧packV vs = v∧h2 = h'
theorem Fc.introD {P:Program} {f nt:Nat} {dc:DC} {rs:List ResultVar} {args:List Value} {h h' : AH} {v:Value} (F:FnD P f dc nt rs) (hl:args.length≤nt) (hg:h.wlim≤h.next→Grow h h') (T:DTri P nt h.next dc (argF 0 args) h (EndD P rs v h')):Fc P f args h v h':=by
 obtain ⟨fn,body,hf,hb,hnt,hrs,hic⟩:=F.ex
 subst hnt hrs
 refine ⟨hg,⟨fn,body,hf,hb⟩,fun w0 φ κ w R ha=>?_⟩
 refine callsIn_wide.1 (callsIn_of_wp_marks (F:=Fence.wide) (n:=0) hf hb trivial ?_ rfl)
 refine T body hic _ w0 φ κ w _ (Nat.le_refl _) R (argF_rel (P:=P) hl ha) ?_
 intro th e l1 h1 φ1 κ1 w1 a1 q S1 A1 T1
 cases th with
 | none =>
  obtain ⟨q1,_,vs,q2,rfl,rfl⟩:=q
  have T1:a1.defers = []:=T1
  have hfin:LeavesInM Fence.wide 0 P fn a1.tmps (fun e w'=>∃ φ' κ',e = .returned (ren φ' κ' (packV vs))∧Step w0 φ κ h φ' κ' h1 w'∧okV h1.N κ' (packV vs)) a1.defers .returning w1:=by
   obtain ⟨r1,r2⟩:=results_sound (P:=P) (fn:=fn) A1 S1.rel (by rw [resF_eq]; exact q2)
   rw [T1]
   have hag : ∀ k,h1.N k→(fun k=>if k < h1.next then φ1 k else φ k) k = φ1 k∧(fun k=>if k < h1.next then κ1 k else κ k) k = κ1 k:=fun k hk=>⟨if_pos (sees_lt hk),if_pos (sees_lt hk)⟩
   exact ⟨_,r1,_,_,by rw [ren_congr hag _ r2],S1.fix,ok_mono (fun _ y=>y) (fun k hk=>(hag k hk).2) _ r2⟩
  cases e with
  | normal=>exact hfin
  | ret=>exact hfin
  | exit id=>exact q1.elim
  | pan v=>exact q1.elim
 | some gc =>
  obtain ⟨g,cap⟩:=gc
  obtain ⟨q1,q2⟩:=q
  obtain ⟨t1,d,fv,capt,t2,t3,t4⟩:=T1
  obtain ⟨fn',_,hf',hb'⟩:=q2.body
  have fin : ∀ (u u' : FrameMode), u ≠ .run → settle u' = .returning → (∀ (c0 : Frame) (cs : List Frame), c0.mode = u → recoverD (c0 :: cs) = some (panV e, { c0 with mode := u' } :: cs) ∨ (recoverD (c0 :: cs) = none ∧ panV e = .nilIface ∧ { c0 with mode := u' } :: cs = c0 :: cs)) →
      LeavesInM Fence.wide 0 P fn a1.tmps (fun e w'=>∃ φ' κ',e = .returned (ren φ' κ' v)∧Step w0 φ κ h φ' κ' h' w'∧okV h'.N κ' v) a1.defers u w1:=by
   intro u u' hur hus hu
   rw [t2]
   refine ⟨hur,.inr ⟨fun hd=>(by cases hd),fv,capt,g,_,t3,t4 fn' _ hf' hb' w1,fun _ _=>trivial,?_⟩⟩
   refine (q2.run w0 φ1 κ1 w1 S1.rel t1 u u' hu).mono ?_
   rintro en u2 w' ⟨⟨x,rfl⟩,rfl,h2,φ2,κ2,⟨vs,r0,rfl,rfl⟩,S2⟩
   show LeavesInM Fence.wide 0 P fn a1.tmps _ [] (settle u2) w'
   rw [hus]
   have A1' : ARel φ1 κ1 h1.N fn.ntmps (trOf l1) [d] a1:=t2 ▸ A1
   have S12:Stb h.next w0 φ κ h φ2 κ2 h2 w':=S1.trans (Stb.of S2 S1.next)
   obtain ⟨r1,r2⟩:=results_sound (P:=P) (fn:=fn) (A1'.step S2) S2.rel (by rw [resF_eq]; exact r0)
   have hag : ∀ k,h2.N k→(fun k=>if k < h2.next then φ2 k else φ k) k = φ2 k∧(fun k=>if k < h2.next then κ2 k else κ k) k = κ2 k:=fun k hk=>⟨if_pos (sees_lt hk),if_pos (sees_lt hk)⟩
   exact ⟨_,r1,_,_,by rw [ren_congr hag _ r2],S12.fix,ok_mono (fun _ y=>y) (fun k hk=>(hag k hk).2) _ r2⟩
  have hret : ∀ e',panV e' = .nilIface→panV e = panV e'→LeavesInM Fence.wide 0 P fn a1.tmps (fun e w'=>∃ φ' κ',e = .returned (ren φ' κ' v)∧Step w0 φ κ h φ' κ' h' w'∧okV h'.N κ' v) a1.defers .returning w1:=by
   intro e' h1' h2'
   refine fin .returning .returning (by simp) rfl fun c0 cs hc=>.inr ?_
   obtain ⟨x1,x2⟩:=rec_ret c0 cs hc
   exact ⟨x1,h2'.trans h1',x2⟩
  cases e with
  | normal=>exact hret .normal rfl rfl
  | ret=>exact hret .ret rfl rfl
  | exit id=>exact absurd rfl (q1 id)
  | pan v'=>exact fin _ _ (by simp) rfl fun c0 cs hc=>.inl (rec_pan c0 cs hc)
end Go.Vm
