import Derived.Test.YtgjokhodccacoaaDoorSMb
import Derived.Test.YtgjokhodccacoaaDoorSMy
set_option linter.unusedSimpArgs false
set_option linter.unusedVariables false
namespace Go.Vm
open Go Go.RowKit
section
variable {P:Program} {w0 w w' : World} {φ φ' : Nat→Nat×Nat} {κ κ' : Nat→Nat} {a:Act} {h h' : AH} {t t' : Tr Value} {nt:Nat} {ds:List Deferred} {call:CallF}
structure HookOk (P:Program) (hook:Hook):Prop where
 grow : ∀ f args h v h',h.wlim≤h.next→hookFn hook f args h = some (v,h')→Grow h h'
 body : ∀ f args h v h',hookFn hook f args h = some (v,h')→∃ fn c,P.funcs[f]? = some fn∧fn.body = some c
 run : ∀ f args h v h',hookFn hook f args h = some (v,h')→∀ w0 φ κ w,Rel w0 φ κ h w→(∀ x∈args,okV h.N κ x) →
  Calls P f (args.map (ren φ κ)).toArray w fun e w'=>∃ φ' κ',e = .returned (ren φ' κ' v)∧Step w0 φ κ h φ' κ' h' w'∧okV h'.N κ' v
theorem aRun_ok (hm:P.follows .mixedOrders = true) (nm:namesOk P = true) {hook:Hook} (hk:HookOk P hook) (fu:Nat) : ∀ n,CallOk P (aRun P hook fu n).rel:=by
 intro n
 induction n with
 | zero=>exact ⟨fun f args h v h' _ e=>by simp [aRun,CallF.rel] at e,fun f args h v h' e=>by simp [aRun,CallF.rel] at e,fun f args h v h' e=>by simp [aRun,CallF.rel] at e,fun f args h v h' _ e=>by simp [aRun,CallF.rel] at e,fun f args h v h' e=>by simp [aRun,CallF.rel] at e,fun f args h v h' _ e=>by simp [aRun,CallF.rel] at e,fun f args h v h' e=>by simp [aRun,CallF.rel] at e,fun f args h v h' e=>by simp [aRun,CallF.rel] at e⟩
 | succ n ih =>
  have part : ∀ f args h v h',(aRun P hook fu (n + 1)).fn f args h = some (v,h')→hookFn hook f args h = some (v,h')∨aFun P (aRun P hook fu n) fu f args h = some (v,h')∨aFunE P (aRun P hook fu n) fu f args h = some (false,v,h'):=by
   intro f args h v h' e
   simp only [aRun] at e
   split at e
   ·rename_i g hg
    left
    unfold hookFn
    rw [hg]
    exact e
   ·split at e
    ·split at e
     ·rename_i r hr
      injection e with e
      subst e
      exact .inr (.inr hr)
     ·cases e
    ·exact .inr (.inl e)
  have partP : ∀ f args h v h',(aRun P hook fu (n + 1)).pan f args h = some (v,h')→aFunE P (aRun P hook fu n) fu f args h = some (true,v,h'):=by
   intro f args h v h' e
   simp only [aRun] at e
   split at e
   ·rename_i r hr
    injection e with e
    subst e
    exact hr
   ·cases e
  refine ⟨fun f args h v h' hw e=>?_,fun f args h v h' e=>?_,fun f args h v h' e w0 φ κ w R ha=>?_,fun k args h v h' hw e=>?_,fun k args h v h' e w0 φ κ w R ha=>?_,fun f args h v h' hw e=>?_,fun f args h v h' e=>?_,fun f args h v h' e w0 φ κ w R ha=>?_⟩
  ·rcases part f args h v h' e with e|e|e
   ·exact hk.grow _ _ _ _ _ hw e
   ·exact aFun_grow ih nm hw e
   ·exact (aFunE_sound hm nm ih e).1 hw
  ·rcases part f args h v h' e with e|e|e
   ·exact hk.body _ _ _ _ _ e
   ·obtain ⟨fn,c,ex,t,ms,h1,l,q1,q2,_⟩:=aFun_spec e
    exact ⟨fn,c,q1,q2⟩
   ·exact (aFunE_sound hm nm ih e).2.1
  ·rcases part f args h v h' e with e|e|e
   ·exact hk.run _ _ _ _ _ e w0 φ κ w R ha
   ·exact aFun_sound hm nm ih e R ha
   ·refine ((aFunE_sound hm nm ih e).2.2 w0 φ κ w R ha).mono ?_
    rintro en w' ⟨φ',κ',rfl,S,o⟩
    exact ⟨φ',κ',rfl,S,o rfl⟩
  ·exact aYld_grow ih nm hw e
  ·exact aYld_sound hm nm ih e R ha
  ·exact (aFunE_sound hm nm ih (partP _ _ _ _ _ e)).1 hw
  ·exact (aFunE_sound hm nm ih (partP _ _ _ _ _ e)).2.1
  ·refine ((aFunE_sound hm nm ih (partP _ _ _ _ _ e)).2.2 w0 φ κ w R ha).mono ?_
   rintro en w' ⟨φ',κ',rfl,S,_⟩
   exact ⟨φ',κ',rfl,S⟩
theorem noHook_ok:HookOk P noHook:=⟨fun f args h v h' _ e=>by simp [hookFn,noHook] at e,fun f args h v h' e=>by simp [hookFn,noHook] at e,fun f args h v h' e=>by simp [hookFn,noHook] at e⟩
def h00:AH:=⟨.leaf,0,0,[]⟩
theorem rel00 {w:World} (ht:Tab w):Rel w (fun _=>(0,0)) (fun _=>0) h00 w :=
 ⟨⟨Below.refl _ _,ht⟩,fun p hp=>(by cases hp),Nat.le_refl _,fun k o g=>(by have:=get_tr g; cases this),fun k o g=>(by have:=get_tr g; cases this),fun k k' o o' g=>(by have:=get_tr g; cases this)⟩
theorem calls_closed {call : CallF} (C : CallOk P call.rel) {f : Nat} {args : List Value} {v : Value} {h' : AH} (e : call.fn f args h00 = some (v, h')) (ha : noAddrs args = true) (hv : noAddr v = true) (w : World) (ht : Tab w) :
    Calls P f args.toArray w fun e w'=>e = .returned v∧Below w.heap.size w w':=by
 have hmem : ∀ (l:List Value),noAddrs l = true→∀ x∈l,noAddr x = true:=by
  intro l
  induction l with
  | nil=>intro _ x hx; cases hx
  | cons y r ih =>
   intro h x hx
   simp only [noAddrs,Bool.and_eq_true] at h
   rcases List.mem_cons.1 hx with hx|hx
   ·exact hx ▸ h.1
   ·exact ih h.2 x hx
 have:=C.run _ _ _ _ _ e w _ _ w (rel00 ht) (fun x hx=>ok_noAddr _ _ _ (hmem args ha x hx))
 rw [noAddrs_ren _ ha] at this
 refine this.mono ?_
 rintro en w' ⟨φ',κ',rfl,S,_⟩
 exact ⟨by rw [ren_noAddr _ _ _ hv],S.rel.below.toBelow⟩
def isTrue:Option (Value×AH)→Bool
 | some (.bool b,_)=>b
 | _=>false
theorem calls_true (hm : P.follows .mixedOrders = true) (nm : namesOk P = true) {hook : Hook} (hk : HookOk P hook) {fu n f : Nat} (e : isTrue ((aRun P hook fu n).fn f [] h00) = true) (w : World) (ht : Tab w) :
    Calls P f #[] w fun e w'=>e = .returned (.bool true)∧Below w.heap.size w w':=by
 unfold isTrue at e
 split at e
 ·rename_i b h' he
  subst e
  exact calls_closed (aRun_ok hm nm hk fu n) he rfl rfl w ht
 ·cases e
end
end Go.Vm
namespace Go.Vm
open Go Go.RowKit
structure Fc (P:Program) (f:Nat) (args:List Value) (h:AH) (v:Value) (h' : AH):Prop where
 grow:h.wlim≤h.next→Grow h h'
 body : ∃ fn c,P.funcs[f]? = some fn∧fn.body = some c
 run : ∀ w0 φ κ w,Rel w0 φ κ h w→(∀ x∈args,okV h.N κ x) →
  Calls P f (args.map (ren φ κ)).toArray w fun e w'=>∃ φ' κ',e = .returned (ren φ' κ' v)∧Step w0 φ κ h φ' κ' h' w'∧okV h'.N κ' v
structure Yl (P:Program) (k:Nat) (args:List Value) (h:AH) (v:Value) (h' : AH):Prop where
 grow:h.wlim≤h.next→Grow h h'
 run : ∀ w0 φ κ w,Rel w0 φ κ h w→(∀ x∈args,okV h.N κ x) →
  ∃ f tmps assign body,(Instr.yield (φ k).1 (args.map (ren φ κ)).toArray).run P w = .ok (.round (φ k).1 f tmps assign body) w ∧
   RoundIn Fence.wide 0 P (φ k).1 f tmps assign body w fun e w'=>∃ φ' κ',e = .returned (ren φ' κ' v)∧Step w0 φ κ h φ' κ' h' w'∧okV h'.N κ' v
structure Fp (P:Program) (f:Nat) (args:List Value) (h:AH) (v:Value) (h' : AH):Prop where
 grow:h.wlim≤h.next→Grow h h'
 body : ∃ fn c,P.funcs[f]? = some fn∧fn.body = some c
 run : ∀ w0 φ κ w,Rel w0 φ κ h w→(∀ x∈args,okV h.N κ x) →
  Calls P f (args.map (ren φ κ)).toArray w fun e w'=>∃ φ' κ',e = .panicked [{ v:=v,recovered:=false }]∧Step w0 φ κ h φ' κ' h' w'
def semC (P:Program):CallR:=⟨Fc P,Yl P,Fp P⟩
theorem semC_ok (P:Program):CallOk P (semC P) :=
 ⟨fun _ _ _ _ _ hw e=>e.grow hw,fun _ _ _ _ _ e=>e.body,fun _ _ _ _ _ e=>e.run,fun _ _ _ _ _ hw e=>e.grow hw,fun _ _ _ _ _ e=>e.run,fun _ _ _ _ _ hw e=>e.grow hw,fun _ _ _ _ _ e=>e.body,fun _ _ _ _ _ e=>e.run⟩
def rRow (P:Program) (C:CallR) (nt:Nat) (ops:Array Oper):List Oper→Tr Value→AH→Tr Value→AH→Prop
 | [],t,h,t',h'=>t' = t∧h' = h
 | o :: r,t,h,t',h' =>
  (aWant ops t o = some true∧∃ v h1 t1,rStep P C h (aEnv t) o v h1∧aPut nt t o.dst v = some t1∧rRow P C nt ops r t1 h1 t' h') ∨
  (aWant ops t o = some false∧∃ t1,aPut nt t o.dst undef = some t1∧rRow P C nt ops r t1 h t' h')
structure Stb (b:Nat) (w0:World) (φ:Nat→Nat×Nat) (κ:Nat→Nat) (h:AH) (φ' : Nat→Nat×Nat) (κ' : Nat→Nat) (h' : AH) (w' : World):Prop where
 agr : ∀ k,k < b→φ' k = φ k∧κ' k = κ k
 rel:Rel w0 φ' κ' h' w'
 next:b≤h'.next
 hid:h'.hid = h.hid
 wlim:h'.wlim = h.wlim
 keep : ∀ k,k < h.wlim→h'.tr.get k = h.tr.get k
theorem Stb.of {b:Nat} {w0 w' : World} {φ φ' : Nat→Nat×Nat} {κ κ' : Nat→Nat} {h h' : AH} (S:Step w0 φ κ h φ' κ' h' w') (hb:b≤h.next):Stb b w0 φ κ h φ' κ' h' w' :=
 ⟨fun k hk=>S.agr k (by omega),S.rel,Nat.le_trans hb S.next,S.hid,S.wlim,S.keep⟩
theorem Stb.trans {b:Nat} {w0 w' w'' : World} {φ φ' φ'' : Nat→Nat×Nat} {κ κ' κ'' : Nat→Nat} {h h' h'' : AH} (S:Stb b w0 φ κ h φ' κ' h' w') (T:Stb b w0 φ' κ' h' φ'' κ'' h'' w''):Stb b w0 φ κ h φ'' κ'' h'' w'' :=
 ⟨fun k hk=>⟨(T.agr k hk).1.trans (S.agr k hk).1,(T.agr k hk).2.trans (S.agr k hk).2⟩,T.rel,T.next,T.hid.trans S.hid,T.wlim.trans S.wlim,fun k hk=>(T.keep k (by rw [S.wlim]; exact hk)).trans (S.keep k hk)⟩
def Tri (P:Program) (nt:Nat) (rd:Option Nat) (b:Nat) (c:Code) (t:Tr Value) (ms:List Nat) (h:AH) (Q:AEx→Tr Value→List Nat→AH→Prop):Prop :=
 ∀ (K:Exit→Act→World→Prop) (rc:RC) w0 φ κ w a,b≤h.next→Rel w0 φ κ h w→RdOK φ h.N rd rc→MsOK h.N ms→ARel φ κ h.N nt t (mkD φ rc ms) a →
  (∀ e t' ms' h' φ' κ' w' a',Q e t' ms' h'→Stb b w0 φ κ h φ' κ' h' w'→RdOK φ' h'.N rd rc→MsOK h'.N ms'→ARel φ' κ' h'.N nt t' (mkD φ' rc ms') a'→K e.toExit a' w')→c.wpIn rc.f 0 P K a w
section
variable {P:Program} {nt b:Nat} {rd:Option Nat} {t t' : Tr Value} {ms:List Nat} {h h' : AH} {Q Q' : AEx→Tr Value→List Nat→AH→Prop} {ops:Array Oper}
theorem rRow_sound {C : CallR} (hnm : namesOk P = true) (ok : CallOk P C) {ds : List Deferred} {rc : Option Nat} {Q : Exit → Act → World → Prop} : ∀ (l : List Oper) (t : Tr Value) (h : AH) (t' : Tr Value) (h' : AH), rRow P C nt ops l t h t' h' →
    ∀ w0 φ κ w a,Rel w0 φ κ h w→ARel φ κ h.N nt t ds a→(∀ φ' κ' w' a',Step w0 φ κ h φ' κ' h' w'→ARel φ' κ' h'.N nt t' ds a'→Q .normal a' w')→wpListIn (fen rc) 0 P ops Q l a w:=by
 intro l
 induction l with
 | nil =>
  intro t h t' h' e w0 φ κ w a R A hq
  obtain ⟨rfl,rfl⟩:=e
  exact hq φ κ w a R.step A
 | cons o r ih =>
  intro t h t' h' e w0 φ κ w a R A hq
  unfold wpListIn
  rcases e with ⟨hw,v,h1,t1,hs,hp,e⟩|⟨hw,t1,hp,e⟩
  ·rw [A.want hw,if_pos rfl]
   refine rStep_sound hnm ok R A.env hs fun φ1 κ1 w1 S1 o1=>?_
   exact ih _ _ _ _ e w0 φ1 κ1 w1 _ S1.rel ((A.step S1).put hp o1) fun φ' κ' w' a' S A'=>hq φ' κ' w' a' (S1.trans S) A'
  ·rw [A.want hw,if_neg (by simp)]
   have:=A.put hp (ok_undef (κ:=κ))
   rw [ren_undef] at this
   exact ⟨fun f _=>fen_fn rc f,ih _ _ _ _ e w0 φ κ w _ R this hq⟩
theorem Tri.mono {c:Code} (T:Tri P nt rd b c t ms h Q) (hq : ∀ e t' ms' h',Q e t' ms' h'→Q' e t' ms' h'):Tri P nt rd b c t ms h Q' :=
 fun K rc w0 φ κ w a B R D M A hk=>T K rc w0 φ κ w a B R D M A fun e t' ms' h' φ' κ' w' a' q=>hk e t' ms' h' φ' κ' w' a' (hq _ _ _ _ q)
theorem Rel.stb {w0 w:World} {φ:Nat→Nat×Nat} {κ:Nat→Nat} (R:Rel w0 φ κ h w) (B:b≤h.next):Stb b w0 φ κ h φ κ h w:=.of R.step B
theorem Tri.skip (q:Q .normal t ms h):Tri P nt rd b .skip t ms h Q:=fun _ _ _ φ κ w a B R D M A hk=>wpIn_skip (hk _ _ _ _ φ κ w a q (R.stb B) D M A)
theorem Tri.exit {id:Nat} (q:Q (.exit id) t ms h):Tri P nt rd b (.exit id) t ms h Q:=fun _ _ _ φ κ w a B R D M A hk=>wpIn_exit (hk _ _ _ _ φ κ w a q (R.stb B) D M A)
theorem Tri.ret (q:Q .ret t ms h):Tri P nt rd b .ret t ms h Q:=fun _ _ _ φ κ w a B R D M A hk=>wpIn_ret (hk _ _ _ _ φ κ w a q (R.stb B) D M A)
theorem Tri.row {id:Nat} (hnm:namesOk P = true) (e:rRow P (semC P) nt ops ops.toList t h t' h') (q:Q .normal t' ms h'):Tri P nt rd b (.region id ops false) t ms h Q:=by
 intro K rc w0 φ κ w a B R D M A hk
 refine wpIn_region_list (rRow_sound hnm (semC_ok P) _ _ _ _ _ e w0 φ κ w a R A fun φ' κ' w' a' S A'=>?_)
 obtain ⟨M',m'⟩:=M.step S
 exact hk _ _ _ _ φ' κ' w' a' q (.of S B) (D.step S) M' (A'.ds m'.symm)
theorem Tri.draw {id:Nat} (hm:P.follows .mixedOrders = true) (hnm:namesOk P = true) (e:rRegion P (semC P) nt ops t h t' h') (q:Q .normal t' ms h'):Tri P nt rd b (.region id ops true) t ms h Q:=by
 intro K rc w0 φ κ w a B R D M A hk
 refine rRegion_sound hm hnm (semC_ok P) e R A fun φ' κ' w' a' S A'=>?_
 obtain ⟨M',m'⟩:=M.step S
 exact hk _ _ _ _ φ' κ' w' a' q (.of S B) (D.step S) M' (A'.ds m'.symm)
theorem Tri.seq {x y:Code} (X:Tri P nt rd b x t ms h fun e t' ms' h'=>match e with|.normal=>Tri P nt rd b y t' ms' h' Q|e=>Q e t' ms' h'):Tri P nt rd b (.seq x y) t ms h Q:=by
 intro K rc w0 φ κ w a B R D M A hk
 refine wpIn_seq (X _ rc w0 φ κ w a B R D M A fun e t1 ms1 h1 φ1 κ1 w1 a1 q S1 D1 M1 A1=>?_)
 cases e with
 | normal=>exact q K rc w0 φ1 κ1 w1 a1 S1.next S1.rel D1 M1 A1 fun e t2 ms2 h2 φ2 κ2 w2 a2 q2 S2 D2 M2 A2=>hk e t2 ms2 h2 φ2 κ2 w2 a2 q2 (S1.trans S2) D2 M2 A2
 | exit id=>exact hk (.exit id) t1 ms1 h1 φ1 κ1 w1 a1 q S1 D1 M1 A1
 | ret=>exact hk .ret t1 ms1 h1 φ1 κ1 w1 a1 q S1 D1 M1 A1
 | pan v=>exact hk (.pan v) t1 ms1 h1 φ1 κ1 w1 a1 q S1 D1 M1 A1
theorem Tri.cond {c:Operand} {x y:Code} {v:Bool} (hb:aEnv t c = some (.bool v)) (X:v = true→Tri P nt rd b x t ms h Q) (Y:v = false→Tri P nt rd b y t ms h Q):Tri P nt rd b (.cond c x y) t ms h Q:=by
 intro K rc w0 φ κ w a B R D M A hk
 have hc:=(A.env c _ hb).1
 simp only [ren] at hc
 refine wpIn_cond hc ?_
 cases v with
 | true=>exact X rfl K rc w0 φ κ w a B R D M A hk
 | false=>exact Y rfl K rc w0 φ κ w a B R D M A hk
theorem Tri.block {id:Nat} {c:Code} (X:Tri P nt rd b c t ms h fun e t' ms' h'=>match e with|.exit j=>if j = id then Q .normal t' ms' h' else Q (.exit j) t' ms' h'|e=>Q e t' ms' h'):Tri P nt rd b (.block id c) t ms h Q:=by
 intro K rc w0 φ κ w a B R D M A hk
 refine wpIn_block (X _ rc w0 φ κ w a B R D M A fun e t1 ms1 h1 φ1 κ1 w1 a1 q S1 D1 M1 A1=>?_)
 cases e with
 | normal=>exact hk .normal t1 ms1 h1 φ1 κ1 w1 a1 q S1 D1 M1 A1
 | ret=>exact hk .ret t1 ms1 h1 φ1 κ1 w1 a1 q S1 D1 M1 A1
 | pan v=>exact hk (.pan v) t1 ms1 h1 φ1 κ1 w1 a1 q S1 D1 M1 A1
 | exit j =>
  simp only [AEx.toExit,Exit.inBlock]
  simp only at q
  by_cases hj:j = id
  ·rw [if_pos hj] at q ⊢; exact hk .normal t1 ms1 h1 φ1 κ1 w1 a1 q S1 D1 M1 A1
  ·rw [if_neg hj] at q ⊢; exact hk (.exit j) t1 ms1 h1 φ1 κ1 w1 a1 q S1 D1 M1 A1
def Wk (nt b:Nat) (rd:Option Nat) (t:Tr Value) (ms:List Nat) (h:AH) (t' : Tr Value) (ms' : List Nat) (h' : AH):Prop :=
 ∀ w0 φ κ w a rc,b≤h.next→Rel w0 φ κ h w→RdOK φ h.N rd rc→MsOK h.N ms→ARel φ κ h.N nt t (mkD φ rc ms) a →
  ∃ φ' κ',Stb b w0 φ κ h φ' κ' h' w∧RdOK φ' h'.N rd rc∧MsOK h'.N ms'∧ARel φ' κ' h'.N nt t' (mkD φ' rc ms') a
theorem Tri.weak {c:Code} {ms' : List Nat} (W:Wk nt b rd t ms h t' ms' h') (T:Tri P nt rd b c t' ms' h' Q):Tri P nt rd b c t ms h Q:=by
 intro K rc w0 φ κ w a B R D M A hk
 obtain ⟨φ1,κ1,S1,D1,M1,A1⟩:=W w0 φ κ w a rc B R D M A
 exact T K rc w0 φ1 κ1 w a S1.next S1.rel D1 M1 A1 fun e t2 ms2 h2 φ2 κ2 w2 a2 q2 S2 D2 M2 A2=>hk e t2 ms2 h2 φ2 κ2 w2 a2 q2 (S1.trans S2) D2 M2 A2
theorem Tri.loop {ι : Type} {c : Code} (T : ι → Tr Value) (M : ι → List Nat) (H : ι → AH) (I : ι → Prop) (μ : ι → Nat) (i0 : ι) (h0 : I i0)
    (body : ∀ i,I i→Tri P nt rd b c (T i) (M i) (H i) fun e t' ms' h'=>match e with|.normal=>∃ j,I j∧μ j < μ i∧Wk nt b rd t' ms' h' (T j) (M j) (H j)|e=>Q e t' ms' h') :
    Tri P nt rd b (.loop c) (T i0) (M i0) (H i0) Q:=by
 intro K rc w0 φ κ w a B R D M0 A hk
 have key : ∀ n i,μ i < n→I i→∀ φ1 κ1 w1 a1,Stb b w0 φ κ (H i0) φ1 κ1 (H i) w1→RdOK φ1 (H i).N rd rc→MsOK (H i).N (M i)→ARel φ1 κ1 (H i).N nt (T i) (mkD φ1 rc (M i)) a1→Code.roundsIn rc.f 0 P c K n a1 w1:=by
  intro n
  induction n with
  | zero=>intro i hi; omega
  | succ n ih =>
   intro i hi hI φ1 κ1 w1 a1 S1 D1 M1 A1
   rw [roundsIn_succ]
   refine body i hI _ rc w0 φ1 κ1 w1 a1 S1.next S1.rel D1 M1 A1 fun e t2 ms2 h2 φ2 κ2 w2 a2 q S2 D2 M2 A2=>?_
   cases e with
   | normal =>
    obtain ⟨j,hj,hlt,W⟩:=q
    obtain ⟨φ3,κ3,S3,D3,M3,A3⟩:=W w0 φ2 κ2 w2 a2 rc S2.next S2.rel D2 M2 A2
    exact ih j (by omega) hj φ3 κ3 w2 a2 ((S1.trans S2).trans S3) D3 M3 A3
   | exit id=>exact hk (.exit id) t2 ms2 h2 φ2 κ2 w2 a2 q (S1.trans S2) D2 M2 A2
   | ret=>exact hk .ret t2 ms2 h2 φ2 κ2 w2 a2 q (S1.trans S2) D2 M2 A2
   | pan v=>exact hk (.pan v) t2 ms2 h2 φ2 κ2 w2 a2 q (S1.trans S2) D2 M2 A2
 exact wpIn_loop_rounds (μ i0 + 1) (key _ i0 (Nat.lt_succ_self _) h0 φ κ w a (R.stb B) D M0 A)
end
end Go.Vm
