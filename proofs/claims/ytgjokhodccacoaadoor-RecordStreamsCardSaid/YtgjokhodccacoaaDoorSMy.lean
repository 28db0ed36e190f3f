import Derived.Test.YtgjokhodccacoaaDoorSMb
import Derived.RecoverIn
set_option linter.unusedSimpArgs false
set_option linter.unusedVariables false
namespace Go.Vm
open Go Go.RowKit
theorem recOps_get (v:Value) (ops:Array Oper) (i:Nat):(recOps v ops)[i]? = (ops[i]?).map (recOp v):=by unfold recOps; simp
theorem recOp_after (v:Value) (o:Oper):(recOp v o).after = o.after∧(recOp v o).dst = o.dst∧(recOp v o).guard = o.guard:=by
 unfold recOp; split <;> exact ⟨rfl,rfl,rfl⟩
theorem recOps_size (v:Value) (ops:Array Oper):(recOps v ops).size = ops.size:=by unfold recOps; simp
theorem ready_rec (v:Value) (ops:Array Oper) (listed:Array Bool):Region.ready .any (recOps v ops) listed = Region.ready .any ops listed:=by
 unfold Region.ready
 rw [recOps_size]
 refine List.filter_congr fun i _=>?_
 rw [recOps_get]
 cases ops[i]? with
 | none=>rfl
 | some o=>simp only [Option.map_some,(recOp_after v o).1]
theorem yielded_rec (v:Value) (ops:Array Oper) (tmps:Array Value):yielded (recOps v ops) tmps = yielded ops tmps:=by
 funext j
 unfold yielded
 rw [recOps_get]
 cases ops[j]? with
 | none=>rfl
 | some o=>simp only [Option.map_some,Option.bind_some,(recOp_after v o).2.1]
theorem recAt_spec {ops:Array Oper} {ri:Nat} (h:recAt ops = some ri):(∃ o,ops[ri]? = some o∧isRec o = true∧o.guard = none)∧∀ i o,ops[i]? = some o→isRec o = true→i = ri:=by
 unfold recAt at h
 split at h
 ·rename_i o i hf
  split at h
  ·rename_i hg
   injection h with h
   subst h
   have hm:(o,i)∈ops.toList.zipIdx.filter (fun p=>isRec p.1):=by rw [hf]; simp
   obtain ⟨h1,h2⟩:=List.mem_filter.1 hm
   refine ⟨⟨o,by simpa using List.mem_zipIdx_iff_getElem?.1 h1,h2,hg⟩,fun j oj hj hr=>?_⟩
   have:(oj,j)∈ops.toList.zipIdx.filter (fun p=>isRec p.1):=List.mem_filter.2 ⟨List.mem_zipIdx_iff_getElem?.2 (by simpa using hj),hr⟩
   rw [hf] at this
   simp at this
   exact this.2
  ·cases h
 ·cases h
theorem isRec_run {P:Program} {ev:Operand→Value} {o:Oper} {w:World} (h:isRec o = true):(execOp ev o).run P w = .ok .recover w:=by
 unfold isRec at h
 split at h
 ·rename_i c ho
  split at h
  ·rename_i hc
   rw [execOp_call ho]
   have hres:(resolve ev c o.type).run P w = .ok { target:=.builtin .recover c.argTypes o.type (c.args.map fun|.const _=>true|_=>false),args:=c.args.map ev } w:=by
    unfold resolve
    rw [hc]
    rfl
   rw [Sem.run_bind,hres]
   rfl
  ·cases h
 ·cases h
theorem anyS {P : Program} {ops : Array Oper} {v : Value} {ri : Nat} {Q : Act → World → Prop} {cs0 cs1 : List Frame}
    (hs:slotsOk (recOps v ops) (masks [] (recOps v ops).toList) = true) (hri:recAt ops = some ri)
    (hrec:recoverD cs0 = some (v,cs1)∨(recoverD cs0 = none∧v = .nilIface∧cs1 = cs0)) {b:Frame} (k:List Item) (hb:b.kind = .deferred) (hro:b.roundOf = none) :
    ∀ (fuel t:Nat) (listed:Array Bool) (a:Act) (w:World) (cs:List Frame),listed.size = ops.size→cs = (if listed.getD ri false then cs1 else cs0) →
     wpAnyIn Fence.wide 0 P .any (recOps v ops) (fun e a w=>match e with|.normal=>Q a w|_=>False) fuel listed a w →
     ∃ a' w',Q a' w'∧StepsIn (Machine.fenced P Fence.wide) P (lone (b.atR a (.inRegion ops (Region.linearise.go .any ops fuel t listed []) :: k)) cs w) (lone (b.atR a' k) cs1 w'):=by
 obtain ⟨⟨or,hor,hrr,hrg⟩,hun⟩:=recAt_spec hri
 have hrlt:ri < ops.size:=(Array.getElem?_eq_some_iff.1 hor).1
 have fw : ∀ m:Machine,Machine.fenced P Fence.wide m:=fun m=>fenced_wide P m
 intro fuel
 have fin : ∀ (listed : Array Bool) (a : Act) (w : World) (cs : List Frame), listed.size = ops.size → cs = (if listed.getD ri false then cs1 else cs0) → Region.ready .any (recOps v ops) listed = [] → Q a w →
     ∃ a' w',Q a' w'∧StepsIn (Machine.fenced P Fence.wide) P (lone (b.atR a (.inRegion ops [] :: k)) cs w) (lone (b.atR a' k) cs1 w'):=by
  intro listed a w cs hsz hcs hr hq
  have:=ready_all hs (by rw [recOps_size]; exact hsz) hr ri (by rw [recOps_size]; exact hrlt)
  rw [this,if_pos rfl] at hcs
  subst hcs
  exact ⟨a,w,hq,.one (fw _) stepR_region_end⟩
 induction fuel with
 | zero =>
  intro t listed a w cs hsz hcs h
  exact fin listed a w cs hsz hcs h.1 h.2
 | succ fuel ih =>
  intro t listed a w cs hsz hcs h
  obtain ⟨h₀,h₁⟩:=h
  rw [ready_rec] at h₀ h₁
  simp only [Region.linearise.go]
  change ∃ a' w',Q a' w'∧StepsIn (Machine.fenced P Fence.wide) P (lone (b.atR a (.inRegion ops (match (Region.ready .any ops listed)[t % (Region.ready .any ops listed).length]? with
   | some i=>Region.linearise.go .any ops fuel (t / (Region.ready .any ops listed).length) (listed.setIfInBounds i true) [i]
   | none=>[].reverse) :: k)) cs w) (lone (b.atR a' k) cs1 w')
  cases hi:(Region.ready .any ops listed)[t % (Region.ready .any ops listed).length]? with
  | none =>
   have hnil:Region.ready .any ops listed = []:=by
    cases hr:Region.ready .any ops listed with
    | nil=>rfl
    | cons x xs =>
     rw [hr] at hi
     have hlt:t % (x :: xs).length < (x :: xs).length:=Nat.mod_lt _ (by simp)
     simp at hi
     simp at hlt
     omega
   exact fin listed a w cs hsz hcs (by rw [ready_rec]; exact hnil) (h₀ hnil)
  | some i =>
   simp only []
   rw [linearise_go_acc,List.reverse_singleton,List.singleton_append]
   generalize hrest:Region.linearise.go .any ops fuel (t / (Region.ready .any ops listed).length) (listed.setIfInBounds i true) [] = rest
   have hmem:=List.mem_of_getElem? hi
   have hop:=h₁ i hmem
   obtain ⟨hlf,o,ho,_⟩:=mem_ready.1 hmem
   have hilt:i < listed.size:=by
    rcases Nat.lt_or_ge i listed.size with h|h
    ·exact h
    ·rw [Array.getD_eq_getD_getElem?,Array.getElem?_eq_none h] at hlf; cases hlf
   have hset:(listed.setIfInBounds i true).size = ops.size:=by simpa using hsz
   have next : ∀ (a1 : Act) (w1 : World) (cs' : List Frame), cs' = (if (listed.setIfInBounds i true).getD ri false then cs1 else cs0) → wpAnyIn Fence.wide 0 P .any (recOps v ops) (fun e a w => match e with | .normal => Q a w | _ => False) fuel (listed.setIfInBounds i true) a1 w1 →
       ∃ a' w',Q a' w'∧StepsIn (Machine.fenced P Fence.wide) P (lone (b.atR a1 (.inRegion ops rest :: k)) cs' w1) (lone (b.atR a' k) cs1 w'):=by
    intro a1 w1 cs' hcs' hh
    rw [← hrest]
    exact ih _ _ a1 w1 cs' hset hcs' hh
   have hg0:(recOps v ops)[i]? = some (recOp v o):=by rw [recOps_get,ho]; rfl
   unfold wpOpIn at hop
   simp only [hg0] at hop
   have hfin : ∀ u,(b.atR a (.inRegion ops (i :: rest) :: k)).finish u = b.atR (a.put o.dst u) (.inRegion ops rest :: k):=by
    intro u; rw [Frame.finish_atR,ho]; rfl
   by_cases hrc:isRec o = true
   ·have hiri:=hun i o ho hrc
    subst hiri
    obtain rfl:=Option.some.inj (ho.symm.trans hor)
    have hcs0:cs = cs0:=by
     rw [hcs,if_neg]
     rw [Array.getD_eq_getD_getElem?] at hlf ⊢
     rw [Array.getElem?_eq_getElem hilt] at hlf ⊢
     simp only [Option.getD_some] at hlf ⊢
     rw [hlf]; simp
    subst hcs0
    have hro' : recOp v o = { o with op:=.move (.const v) }:=by unfold recOp; rw [if_pos hrc]
    have hw' : ∀ y,Region.wanted o y = true:=fun y=>by unfold Region.wanted; rw [hrg]
    have hw2 : ∀ y,Region.wanted (recOp v o) y = true:=fun y=>by unfold Region.wanted; rw [hro']; simp only [hrg]
    rw [if_pos (hw2 _)] at hop
    have hop2:=hop.2
    rw [hro',show ((Oper.semAt Fence.wide.round a.eval { o with op:=.move (.const v) }).run P w) = .ok (.value v) w from rfl] at hop2
    have hgo:=stepGR_op (P:=P) (a:=a) (b:=b) (k:=k) (cs:=cs) (w:=w) (rest:=rest) ho (hw' _)
    rw [hro,Oper.semAt_none] at hgo
    have hrun:=isRec_run (P:=P) (ev:=a.eval) (w:=w) hrc
    have hk:(b.atR a (.inRegion ops (i :: rest) :: k)).kind = .deferred:=hb
    have htr:=tryRecover_deferred hk cs
    have hset1:(listed.setIfInBounds i true).getD i false = true:=by
     rw [Array.getD_eq_getD_getElem?,Array.getElem?_setIfInBounds_self_of_lt hilt]; rfl
    obtain ⟨a',w',hq,hst⟩:=next _ w cs1 (by rw [hset1,if_pos rfl]) hop2
    refine ⟨a',w',hq,.head (fw _) (step_lone_go ?_) hst⟩
    show _ = GStep.go { frame:=b.atR (a.put o.dst v) (.inRegion ops rest :: k),callers:=cs1,status:=.running,dying:=none } w
    rcases hrec with hrec|⟨hrec,rfl,rfl⟩
    ·rw [hgo,← hfin]
     simp only [Frame.atR,hro] at htr ⊢
     simp [stepG.apply,hrun,htr,hrec]
    ·rw [hgo,← hfin]
     simp only [Frame.atR,hro] at htr ⊢
     simp [stepG.apply,hrun,htr,hrec]
   ·have hro' : recOp v o = o:=by unfold recOp; rw [if_neg hrc]
    rw [hro'] at hop
    have hcs' : cs = (if (listed.setIfInBounds i true).getD ri false then cs1 else cs0):=by
     have hne:i≠ri:=by
      intro e
      subst e
      obtain rfl:=Option.some.inj (ho.symm.trans hor)
      exact hrc hrr
     rw [hcs]
     congr 1
     rw [Array.getD_eq_getD_getElem?,Array.getD_eq_getD_getElem?,Array.getElem?_setIfInBounds_ne hne]
    by_cases hw:Region.wanted o (yielded (recOps v ops) a.tmps) = true
    ·rw [if_pos hw] at hop
     rw [yielded_rec] at hw
     have hop:=hop.2
     have hgo:=stepGR_op (P:=P) (a:=a) (b:=b) (k:=k) (cs:=cs) (w:=w) (rest:=rest) ho hw
     rw [hro,Oper.semAt_none] at hgo
     rw [show Oper.semAt Fence.wide.round a.eval o = execOp a.eval o from rfl] at hop
     simp only [Oper.uponIn] at hop
     split at hop
     ·rename_i u w1 hr
      obtain ⟨a',w',hq,hst⟩:=next _ w1 cs hcs' hop
      refine ⟨a',w',hq,.head (fw _) (step_lone_go ?_) hst⟩
      rw [hgo,← hfin]; simp [stepG.apply,hr]
     ·rename_i w1 hr
      obtain ⟨a',w',hq,hst⟩:=next _ w1 cs hcs' hop
      refine ⟨a',w',hq,.head (fw _) (step_lone_go ?_) hst⟩
      rw [hgo,← hfin]; simp [stepG.apply,hr]
     ·rename_i d w1 hr
      obtain ⟨a',w',hq,hst⟩:=next _ w1 cs hcs' hop
      refine ⟨a',w',hq,.head (fw _) (step_lone_go ?_) hst⟩
      have:({ b.atR a (.inRegion ops (i :: rest) :: k) with defers:=d :: a.defers }:Frame).finish undef = b.atR ({ a with defers:=d :: a.defers }.put o.dst undef) (.inRegion ops rest :: k):=by
       have:=Frame.finish_atR b { a with defers:=d :: a.defers } ops i rest k undef
       rw [ho] at this; exact this
      rw [hgo]; simp only [stepG.apply,Sem.runT_eq,hr,GStep.bare_after]
      exact congrArg (fun fr=>GStep.go { frame:=fr,callers:=cs,status:=.running,dying:=none } w1) this
     ·rename_i f args w1 hr
      obtain ⟨hn,hF,hh⟩:=hop
      obtain ⟨e,w2,fr,hR,hsteps,hfn,hleave⟩:=hh (b.atR a (.inRegion ops (i :: rest) :: k) :: cs) (room_wide _)
      have henter:step P (lone (b.atR a (.inRegion ops (i :: rest) :: k)) cs w) = .next (lone (Frame.enter P f args .normal) (b.atR a (.inRegion ops (i :: rest) :: k) :: cs) w1) :=
       step_lone_go (by rw [hgo]; simp [stepG.apply,hr,Frame.atR])
      cases e with
      | returned u =>
       obtain ⟨a',w',hq,hst⟩:=next _ w2 cs hcs' hR
       refine ⟨a',w',hq,.head (fw _) henter (StepsIn.trans hsteps (.head (fw _) ?_ hst))⟩
       rw [← hfin]; exact step_leave_returned hleave
      | panicked chain=>exact hR.elim
      | outgrown=>obtain ⟨_,_,hq⟩:=hR; exact hq.elim
     ·rename_i row args w1 hr
      obtain ⟨hn,hh⟩:=hop
      obtain ⟨u,w2,hR,hsteps⟩:=hh (b.atR a (.inRegion ops (i :: rest) :: k)) cs (room_wide _)
      have henter:step P (lone (b.atR a (.inRegion ops (i :: rest) :: k)) cs w) = .next (lone (Frame.ofRow P row args .normal) (b.atR a (.inRegion ops (i :: rest) :: k) :: cs) w1) :=
       step_lone_go (by rw [hgo]; simp [stepG.apply,hr,Frame.atR])
      obtain ⟨a',w',hq,hst⟩:=next _ w2 cs hcs' hR
      rw [← hfin] at hst
      exact ⟨a',w',hq,.head (fw _) henter (StepsIn.trans hsteps hst)⟩
     ·rename_i l f tmps assign body w1 hr
      obtain ⟨hn,_,hh⟩:=hop
      obtain ⟨e,w2,hR,hsteps⟩:=hh (b.atR a (.inRegion ops (i :: rest) :: k)) cs (room_wide _)
      have henter:step P (lone (b.atR a (.inRegion ops (i :: rest) :: k)) cs w) = .next (lone (Frame.round l f tmps assign body .normal) (b.atR a (.inRegion ops (i :: rest) :: k) :: cs) w1) :=
       step_lone_go (by rw [hgo]; simp [stepG.apply,hr,Frame.atR])
      cases e with
      | returned u =>
       obtain ⟨a',w',hq,hst⟩:=next _ w2 cs hcs' hR
       rw [← hfin] at hst
       exact ⟨a',w',hq,.head (fw _) henter (StepsIn.trans hsteps hst)⟩
      | panicked chain=>exact hR.elim
      | outgrown=>obtain ⟨_,_,hq⟩:=hR; exact hq.elim
     ·exact hop.elim
     ·exact hop.elim
    ·rw [if_neg hw] at hop
     rw [yielded_rec] at hw
     obtain ⟨a',w',hq,hst⟩:=next _ w cs hcs' hop.2
     have hsk:=stepR_op_skip (P:=P) (b:=b) (a:=a) (k:=k) (cs:=cs) (w:=w) (ops:=ops) (i:=i) (rest:=rest) (by simp [ho]; simpa using hw)
     simp only [ho,Option.bind_some] at hsk
     exact ⟨a',w',hq,.head (fw _) hsk hst⟩
section
variable {P:Program} {w0 w w' : World} {φ φ' : Nat→Nat×Nat} {κ κ' : Nat→Nat} {a:Act} {h h' : AH} {t t' : Tr Value} {nt:Nat} {ds:List Deferred}
theorem args_rel {args:List Value} (hl:args.length≤nt) (ha : ∀ x∈args,okV h.N κ x):ARel φ κ h.N nt (argTr 0 args .leaf) [] { tmps:=(args.map (ren φ κ)).toArray++Array.replicate (nt - (args.map (ren φ κ)).toArray.size) undef,defers:=[] }:=by
 refine ⟨rfl,?_,fun d v hd=>?_,fun d v hd=>?_⟩
 ·simp
  omega
 ·rw [argTr_get] at hd
  by_cases hlt:d < args.length
  ·rw [if_pos ⟨Nat.zero_le _,by omega⟩,Nat.sub_zero] at hd
   rw [Array.getElem?_append_left (by simpa using hlt)]
   simp [hd]
  ·rw [if_neg (by omega),Tr.get_leaf] at hd
   cases hd
 ·rw [argTr_get] at hd
  split at hd
  ·exact ha _ (List.mem_of_getElem? hd)
  ·rw [Tr.get_leaf] at hd
   cases hd
theorem thunk_calls {call : CallR} (hm : P.follows .mixedOrders = true) (nm : namesOk P = true) (C : CallOk P call) {g : Nat} {fn : Func} {id ri : Nat} {ops : Array Oper} {y : Code} {v : Value} {cap : List Value} {t1 : Tr Value} {h1 : AH}
    (hf:P.funcs[g]? = some fn) (hb:fn.body = some (.seq (.region id ops true) y)) (hri:recAt ops = some ri) (hl:cap.length≤fn.ntmps) (hr:rRegion P call fn.ntmps (recOps v ops) (argTr 0 cap .leaf) h t1 h1)
    (R:Rel w0 φ κ h w) (ha : ∀ x∈cap,okV h.N κ x) {u u' : FrameMode}
    (hu : ∀ (c0:Frame) (cs:List Frame),c0.mode = u→recoverD (c0 :: cs) = some (v,{ c0 with mode:=u' } :: cs)∨(recoverD (c0 :: cs) = none∧v = .nilIface∧{ c0 with mode:=u' } :: cs = c0 :: cs)) {Rr:World→Prop}
    (hy : ∀ φ1 κ1 w1 a1,Step w0 φ κ h φ1 κ1 h1 w1→ARel φ1 κ1 h1.N fn.ntmps t1 [] a1→y.wpIn Fence.wide 0 P (fun e a w=>(e = .normal∨e = .ret)∧a.defers = []∧∃ x,(results fn a.tmps).run P w = .ok x w∧Rr w) a1 w1) :
    CallsDIn Fence.wide 0 P g (cap.map (ren φ κ)).toArray u w fun e u2 w'=>(∃ x,e = .returned x)∧u2 = u'∧Rr w':=by
 refine ⟨trivial,fun c0 cs hu0 _=>?_⟩
 have fw : ∀ m:Machine,Machine.fenced P Fence.wide m:=fun m=>fenced_wide P m
 let b:Frame:={ (default:Frame) with fn:=g,kind:=.deferred,roundOf:=none }
 have henter:Frame.enter P g (cap.map (ren φ κ)).toArray .deferred = b.atR { tmps:=(cap.map (ren φ κ)).toArray++Array.replicate (fn.ntmps - (cap.map (ren φ κ)).toArray.size) undef,defers:=[] } [.code (.seq (.region id ops true) y)]:=by
  simp [Frame.enter,Frame.atR,hf,hb,b]
 have A0:=args_rel (φ:=φ) (κ:=κ) (h:=h) hl ha
 generalize ({ tmps:=(cap.map (ren φ κ)).toArray++Array.replicate (fn.ntmps - (cap.map (ren φ κ)).toArray.size) undef,defers:=[] }:Act) = a0 at henter A0
 have hany:=rRegion_any (rd:=none) nm C (Q:=fun e a w=>match e with|.normal=>∃ φ1 κ1,Step w0 φ κ h φ1 κ1 h1 w∧ARel φ1 κ1 h1.N fn.ntmps t1 [] a|_=>False) hr R A0 fun φ1 κ1 w1 a1 S1 A1=>⟨φ1,κ1,S1,A1⟩
 rw [recOps_size] at hany
 have hfirst:(Array.replicate ops.size false).getD ri false = false:=by
  rw [Array.getD_eq_getD_getElem?,Array.getElem?_replicate]
  split <;> rfl
 obtain ⟨a1,w1,⟨φ1,κ1,S1,A1⟩,st1⟩:=anyS (Q:=fun a w=>∃ φ1 κ1,Step w0 φ κ h φ1 κ1 h1 w∧ARel φ1 κ1 h1.N fn.ntmps t1 [] a) hr.1 hri (hu c0 cs hu0) (b:=b) [.code y] rfl rfl ops.size (w.tape w.drawn (.order b.fn id)) _ a0 _ (c0 :: cs) (by simp) (by rw [hfirst]; rfl) hany
 obtain ⟨e,a2,w2,⟨he,hd,x,hx,hq⟩,harr⟩:=hy φ1 κ1 w1 a1 S1 A1 b [] ({ c0 with mode:=u' } :: cs) rfl trivial (room_wide _)
 have sreg:step P (lone (b.atR a0 (.code (.region id ops true) :: [.code y])) (c0 :: cs) w) = .next (lone (b.atR a0 (.inRegion ops (Region.linearise.go .any ops ops.size (w.tape w.drawn (.order b.fn id)) (Array.replicate ops.size false) []) :: [.code y])) (c0 :: cs) { w with drawn:=w.drawn + 1 }):=by
  have:=stepR_region_draw (P:=P) (b:=b) (a:=a0) (k:=[.code y]) (cs:=c0 :: cs) (w:=w) (ops:=ops) (id:=id)
  rw [this,hm]
  rfl
 have pre:StepsIn (Machine.fenced P Fence.wide) P (lone (b.atR a0 [.code (.seq (.region id ops true) y)]) (c0 :: cs) w) (lone (b.atR a1 [.code y]) ({ c0 with mode:=u' } :: cs) w1) :=
  .head (fw _) stepR_seq (.head (fw _) sreg st1)
 rw [← henter] at pre
 rcases he with rfl|rfl
 ·exact ⟨.returned x,u',w2,{ b.atR a2 [] with mode:=.returning },⟨⟨x,rfl⟩,rfl,hq⟩,StepsIn.trans pre (StepsIn.trans harr (.one (fw _) (stepR_end rfl))),rfl,rfl,rfl,hd,fn,hf,hx⟩
 ·obtain ⟨todo,hs⟩:=harr.1 rfl
  exact ⟨.returned x,u',w2,{ b.atR a2 todo with mode:=.returning },⟨⟨x,rfl⟩,rfl,hq⟩,StepsIn.trans pre hs,rfl,rfl,rfl,hd,fn,hf,hx⟩
theorem thunk_calls2 {call : CallR} (hm : P.follows .mixedOrders = true) (nm : namesOk P = true) (C : CallOk P call) {g : Nat} {fn : Func} {id ri : Nat} {ops : Array Oper} {x y : Code} {v : Value} {cap : List Value} {t1 : Tr Value} {h1 : AH}
    (hf:P.funcs[g]? = some fn) (hb:fn.body = some (.seq (.seq (.region id ops true) x) y)) (hri:recAt ops = some ri) (hl:cap.length≤fn.ntmps) (hr:rRegion P call fn.ntmps (recOps v ops) (argTr 0 cap .leaf) h t1 h1)
    (R:Rel w0 φ κ h w) (ha : ∀ x∈cap,okV h.N κ x) {u u' : FrameMode}
    (hu : ∀ (c0:Frame) (cs:List Frame),c0.mode = u→recoverD (c0 :: cs) = some (v,{ c0 with mode:=u' } :: cs)∨(recoverD (c0 :: cs) = none∧v = .nilIface∧{ c0 with mode:=u' } :: cs = c0 :: cs)) {Rr:World→Prop}
    (hy : ∀ φ1 κ1 w1 a1,Step w0 φ κ h φ1 κ1 h1 w1→ARel φ1 κ1 h1.N fn.ntmps t1 [] a1→x.wpIn Fence.wide 0 P (fun e a w=>e = .normal∧y.wpIn Fence.wide 0 P (fun e a w=>(e = .normal∨e = .ret)∧a.defers = []∧∃ x,(results fn a.tmps).run P w = .ok x w∧Rr w) a w) a1 w1) :
    CallsDIn Fence.wide 0 P g (cap.map (ren φ κ)).toArray u w fun e u2 w'=>(∃ x,e = .returned x)∧u2 = u'∧Rr w':=by
 refine ⟨trivial,fun c0 cs hu0 _=>?_⟩
 have fw : ∀ m:Machine,Machine.fenced P Fence.wide m:=fun m=>fenced_wide P m
 let b:Frame:={ (default:Frame) with fn:=g,kind:=.deferred,roundOf:=none }
 have henter:Frame.enter P g (cap.map (ren φ κ)).toArray .deferred = b.atR { tmps:=(cap.map (ren φ κ)).toArray++Array.replicate (fn.ntmps - (cap.map (ren φ κ)).toArray.size) undef,defers:=[] } [.code (.seq (.seq (.region id ops true) x) y)]:=by
  simp [Frame.enter,Frame.atR,hf,hb,b]
 have A0:=args_rel (φ:=φ) (κ:=κ) (h:=h) hl ha
 generalize ({ tmps:=(cap.map (ren φ κ)).toArray++Array.replicate (fn.ntmps - (cap.map (ren φ κ)).toArray.size) undef,defers:=[] }:Act) = a0 at henter A0
 have hany:=rRegion_any (rd:=none) nm C (Q:=fun e a w=>match e with|.normal=>∃ φ1 κ1,Step w0 φ κ h φ1 κ1 h1 w∧ARel φ1 κ1 h1.N fn.ntmps t1 [] a|_=>False) hr R A0 fun φ1 κ1 w1 a1 S1 A1=>⟨φ1,κ1,S1,A1⟩
 rw [recOps_size] at hany
 have hfirst:(Array.replicate ops.size false).getD ri false = false:=by
  rw [Array.getD_eq_getD_getElem?,Array.getElem?_replicate]
  split <;> rfl
 obtain ⟨a1,w1,⟨φ1,κ1,S1,A1⟩,st1⟩:=anyS (Q:=fun a w=>∃ φ1 κ1,Step w0 φ κ h φ1 κ1 h1 w∧ARel φ1 κ1 h1.N fn.ntmps t1 [] a) hr.1 hri (hu c0 cs hu0) (b:=b) [.code x,.code y] rfl rfl ops.size (w.tape w.drawn (.order b.fn id)) _ a0 _ (c0 :: cs) (by simp) (by rw [hfirst]; rfl) hany
 obtain ⟨e1,a3,w3,⟨rfl,hy3⟩,harr1⟩:=hy φ1 κ1 w1 a1 S1 A1 b [.code y] ({ c0 with mode:=u' } :: cs) rfl trivial (room_wide _)
 obtain ⟨e,a2,w2,⟨he,hd,u0,hx,hq⟩,harr2⟩:=hy3 b [] ({ c0 with mode:=u' } :: cs) rfl trivial (room_wide _)
 have harr:=ArrivesIn.of_steps harr1 harr2
 have sreg:step P (lone (b.atR a0 (.code (.region id ops true) :: [.code x,.code y])) (c0 :: cs) w) = .next (lone (b.atR a0 (.inRegion ops (Region.linearise.go .any ops ops.size (w.tape w.drawn (.order b.fn id)) (Array.replicate ops.size false) []) :: [.code x,.code y])) (c0 :: cs) { w with drawn:=w.drawn + 1 }):=by
  have:=stepR_region_draw (P:=P) (b:=b) (a:=a0) (k:=[.code x,.code y]) (cs:=c0 :: cs) (w:=w) (ops:=ops) (id:=id)
  rw [this,hm]
  rfl
 have pre:StepsIn (Machine.fenced P Fence.wide) P (lone (b.atR a0 [.code (.seq (.seq (.region id ops true) x) y)]) (c0 :: cs) w) (lone (b.atR a1 [.code x,.code y]) ({ c0 with mode:=u' } :: cs) w1) :=
  .head (fw _) stepR_seq (.head (fw _) stepR_seq (.head (fw _) sreg st1))
 rw [← henter] at pre
 rcases he with rfl|rfl
 ·exact ⟨.returned u0,u',w2,{ b.atR a2 [] with mode:=.returning },⟨⟨u0,rfl⟩,rfl,hq⟩,StepsIn.trans pre (StepsIn.trans harr (.one (fw _) (stepR_end rfl))),rfl,rfl,rfl,hd,fn,hf,hx⟩
 ·obtain ⟨todo,hs⟩:=harr.1 rfl
  exact ⟨.returned u0,u',w2,{ b.atR a2 todo with mode:=.returning },⟨⟨u0,rfl⟩,rfl,hq⟩,StepsIn.trans pre hs,rfl,rfl,rfl,hd,fn,hf,hx⟩
theorem thunk_calls0 {call : CallR} (hm : P.follows .mixedOrders = true) (nm : namesOk P = true) (C : CallOk P call) {g : Nat} {fn : Func} {id ri : Nat} {ops : Array Oper} {v : Value} {cap : List Value} {t1 : Tr Value} {h1 : AH}
    (hf:P.funcs[g]? = some fn) (hb:fn.body = some (.region id ops true)) (hri:recAt ops = some ri) (hl:cap.length≤fn.ntmps) (hr:rRegion P call fn.ntmps (recOps v ops) (argTr 0 cap .leaf) h t1 h1)
    (R:Rel w0 φ κ h w) (ha : ∀ x∈cap,okV h.N κ x) {u u' : FrameMode}
    (hu : ∀ (c0:Frame) (cs:List Frame),c0.mode = u→recoverD (c0 :: cs) = some (v,{ c0 with mode:=u' } :: cs)∨(recoverD (c0 :: cs) = none∧v = .nilIface∧{ c0 with mode:=u' } :: cs = c0 :: cs)) {Rr:World→Prop}
    (hy : ∀ φ1 κ1 w1 a1,Step w0 φ κ h φ1 κ1 h1 w1→ARel φ1 κ1 h1.N fn.ntmps t1 [] a1→a1.defers = []∧∃ x,(results fn a1.tmps).run P w1 = .ok x w1∧Rr w1) :
    CallsDIn Fence.wide 0 P g (cap.map (ren φ κ)).toArray u w fun e u2 w'=>(∃ x,e = .returned x)∧u2 = u'∧Rr w':=by
 refine ⟨trivial,fun c0 cs hu0 _=>?_⟩
 have fw : ∀ m:Machine,Machine.fenced P Fence.wide m:=fun m=>fenced_wide P m
 let b:Frame:={ (default:Frame) with fn:=g,kind:=.deferred,roundOf:=none }
 have henter:Frame.enter P g (cap.map (ren φ κ)).toArray .deferred = b.atR { tmps:=(cap.map (ren φ κ)).toArray++Array.replicate (fn.ntmps - (cap.map (ren φ κ)).toArray.size) undef,defers:=[] } [.code (.region id ops true)]:=by
  simp [Frame.enter,Frame.atR,hf,hb,b]
 have A0:=args_rel (φ:=φ) (κ:=κ) (h:=h) hl ha
 generalize ({ tmps:=(cap.map (ren φ κ)).toArray++Array.replicate (fn.ntmps - (cap.map (ren φ κ)).toArray.size) undef,defers:=[] }:Act) = a0 at henter A0
 have hany:=rRegion_any (rd:=none) nm C (Q:=fun e a w=>match e with|.normal=>∃ φ1 κ1,Step w0 φ κ h φ1 κ1 h1 w∧ARel φ1 κ1 h1.N fn.ntmps t1 [] a|_=>False) hr R A0 fun φ1 κ1 w1 a1 S1 A1=>⟨φ1,κ1,S1,A1⟩
 rw [recOps_size] at hany
 have hfirst:(Array.replicate ops.size false).getD ri false = false:=by
  rw [Array.getD_eq_getD_getElem?,Array.getElem?_replicate]
  split <;> rfl
 obtain ⟨a1,w1,⟨φ1,κ1,S1,A1⟩,st1⟩:=anyS (Q:=fun a w=>∃ φ1 κ1,Step w0 φ κ h φ1 κ1 h1 w∧ARel φ1 κ1 h1.N fn.ntmps t1 [] a) hr.1 hri (hu c0 cs hu0) (b:=b) [] rfl rfl ops.size (w.tape w.drawn (.order b.fn id)) _ a0 _ (c0 :: cs) (by simp) (by rw [hfirst]; rfl) hany
 obtain ⟨hd,x,hx,hq⟩:=hy φ1 κ1 w1 a1 S1 A1
 have sreg:step P (lone (b.atR a0 (.code (.region id ops true) :: [])) (c0 :: cs) w) = .next (lone (b.atR a0 (.inRegion ops (Region.linearise.go .any ops ops.size (w.tape w.drawn (.order b.fn id)) (Array.replicate ops.size false) []) :: [])) (c0 :: cs) { w with drawn:=w.drawn + 1 }):=by
  have:=stepR_region_draw (P:=P) (b:=b) (a:=a0) (k:=[]) (cs:=c0 :: cs) (w:=w) (ops:=ops) (id:=id)
  rw [this,hm]
  rfl
 have pre:StepsIn (Machine.fenced P Fence.wide) P (lone (b.atR a0 [.code (.region id ops true)]) (c0 :: cs) w) (lone (b.atR a1 []) ({ c0 with mode:=u' } :: cs) w1) :=
  .head (fw _) sreg st1
 rw [← henter] at pre
 exact ⟨.returned x,u',w1,{ b.atR a1 [] with mode:=.returning },⟨⟨x,rfl⟩,rfl,hq⟩,StepsIn.trans pre (.one (fw _) (stepR_end rfl)),rfl,rfl,rfl,hd,fn,hf,hx⟩
theorem rec_pan {v:Value} (c0:Frame) (cs:List Frame) (h:c0.mode = .panicking [{ v:=v,recovered:=false }]):recoverD (c0 :: cs) = some (v,{ c0 with mode:=.panicking [{ v:=v,recovered:=true }] } :: cs):=by
 simp [recoverD,h]
theorem rec_ret (c0:Frame) (cs:List Frame) (h:c0.mode = .returning):recoverD (c0 :: cs) = none∧{ c0 with mode:=FrameMode.returning } :: cs = c0 :: cs:=by
 refine ⟨by simp [recoverD,h],?_⟩
 rw [← h]
theorem aThunk1_spec {call : CallF} {fu g : Nat} {cap : List Value} {v : Value} (e : aThunk1 P call fu g cap v h = some h') :
    ∃ fn id ops y ri t1 h1 ex t2 l,P.funcs[g]? = some fn∧fn.body = some (.seq (.region id ops true) y)∧recAt ops = some ri∧cap.length≤fn.ntmps∧aRegion P call fn.ntmps (recOps v ops) (argTr 0 cap .leaf) h = some (t1,h1) ∧
     aCode P call fn.ntmps none fu y t1 [] h1 = some (ex,t2,[],h')∧(ex = .normal∨ex = .ret)∧aRes P t2 h' fn.results.toList = some l:=by
 unfold aThunk1 at e
 split at e
 ·rename_i fn hf
  split at e
  ·rename_i id ops y hb
   split at e
   ·rename_i ri hri
    split at e
    ·rename_i hl
     split at e
     ·rename_i t1 h1 hr
      split at e
      ·cases e
      ·cases e
      ·rename_i ex t2 h2 n1 n2 hc
       split at e
       ·rename_i l hres
        injection e with e
        subst e
        refine ⟨fn,id,ops,y,ri,t1,h1,ex,t2,l,hf,hb,hri,hl,hr,hc,?_,hres⟩
        cases ex with
        | normal=>exact .inl rfl
        | ret=>exact .inr rfl
        | exit id=>exact absurd rfl (n1 id)
        | pan v=>exact absurd rfl (n2 v)
       ·cases e
      ·cases e
     ·cases e
    ·cases e
   ·cases e
  ·cases e
 ·cases e
theorem aThunk1_grow {call:CallF} (C:CallOk P call.rel) (nm:namesOk P = true) {fu g:Nat} {cap:List Value} {v:Value} (hw:h.wlim≤h.next) (e:aThunk1 P call fu g cap v h = some h'):Grow h h':=by
 obtain ⟨fn,id,ops,y,ri,t1,h1,ex,t2,l,_,_,_,_,hr,hc,_,_⟩:=aThunk1_spec e
 have g1:=rRegion_grow C nm hw (rRegion_of hr)
 exact g1.trans (aCode_grow C nm _ _ _ _ _ _ _ _ _ (g1.wl hw) hc)
theorem aThunk1_sound {call : CallF} (hm : P.follows .mixedOrders = true) (nm : namesOk P = true) (C : CallOk P call.rel) {fu g : Nat} {cap : List Value} {v : Value} (e : aThunk1 P call fu g cap v h = some h') (R : Rel w0 φ κ h w) (ha : ∀ x ∈ cap, okV h.N κ x) {u u' : FrameMode}
    (hu : ∀ (c0:Frame) (cs:List Frame),c0.mode = u→recoverD (c0 :: cs) = some (v,{ c0 with mode:=u' } :: cs)∨(recoverD (c0 :: cs) = none∧v = .nilIface∧{ c0 with mode:=u' } :: cs = c0 :: cs)) :
    CallsDIn Fence.wide 0 P g (cap.map (ren φ κ)).toArray u w fun e u2 w'=>(∃ x,e = .returned x)∧u2 = u'∧∃ φ' κ',Step w0 φ κ h φ' κ' h' w':=by
 obtain ⟨fn,id,ops,y,ri,t1,h1,ex,t2,l,hf,hb,hri,hl,hr,hc,hex,hres⟩:=aThunk1_spec e
 refine thunk_calls (Rr:=fun w'=>∃ φ' κ',Step w0 φ κ h φ' κ' h' w') hm nm C hf hb hri hl (rRegion_of hr) R ha hu fun φ1 κ1 w1 a1 S1 A1=>?_
 refine aCode_sound (rd:=none) hm nm C y _ _ _ _ _ _ _ _ hc _ ⟨none,[]⟩ w0 φ1 κ1 w1 _ S1.rel trivial (fun m hm=>by cases hm) A1 fun φ2 κ2 w2 a2 S2 _ A2=>?_
 obtain ⟨r1,_⟩:=results_sound (P:=P) (fn:=fn) A2 S2.rel hres
 refine ⟨?_,A2.defers,_,r1,φ2,κ2,S1.trans S2⟩
 rcases hex with rfl|rfl
 ·exact .inl rfl
 ·exact .inr rfl
theorem aThunk0_spec {call : CallF} {g : Nat} {cap : List Value} {v : Value} (e : aThunk0 P call g cap v h = some h') :
    ∃ fn id ops ri t1 l,P.funcs[g]? = some fn∧fn.body = some (.region id ops true)∧recAt ops = some ri∧cap.length≤fn.ntmps∧aRegion P call fn.ntmps (recOps v ops) (argTr 0 cap .leaf) h = some (t1,h')∧aRes P t1 h' fn.results.toList = some l:=by
 unfold aThunk0 at e
 split at e
 ·rename_i fn hf
  split at e
  ·rename_i id ops hb
   split at e
   ·rename_i ri hri
    split at e
    ·rename_i hl
     split at e
     ·rename_i t1 h1 hr
      split at e
      ·rename_i l hres
       injection e with e
       subst e
       exact ⟨fn,id,ops,ri,t1,l,hf,hb,hri,hl,hr,hres⟩
      ·cases e
     ·cases e
    ·cases e
   ·cases e
  ·cases e
 ·cases e
theorem aThunk2_spec {call : CallF} {fu g : Nat} {cap : List Value} {v : Value} (e : aThunk2 P call fu g cap v h = some h') :
    ∃ fn id ops x y ri t1 h1 t2 h2 ex t3 l,P.funcs[g]? = some fn∧fn.body = some (.seq (.seq (.region id ops true) x) y)∧recAt ops = some ri∧cap.length≤fn.ntmps∧aRegion P call fn.ntmps (recOps v ops) (argTr 0 cap .leaf) h = some (t1,h1) ∧
     aCode P call fn.ntmps none fu x t1 [] h1 = some (.normal,t2,[],h2)∧aCode P call fn.ntmps none fu y t2 [] h2 = some (ex,t3,[],h')∧(ex = .normal∨ex = .ret)∧aRes P t3 h' fn.results.toList = some l:=by
 unfold aThunk2 at e
 split at e
 ·rename_i fn hf
  split at e
  ·rename_i id ops x y hb
   split at e
   ·rename_i ri hri
    split at e
    ·rename_i hl
     split at e
     ·rename_i t1 h1 hr
      split at e
      ·rename_i t2 h2 hx
       split at e
       ·cases e
       ·cases e
       ·rename_i ex t3 h3 n1 n2 hc
        split at e
        ·rename_i l hres
         injection e with e
         subst e
         refine ⟨fn,id,ops,x,y,ri,t1,h1,t2,h2,ex,t3,l,hf,hb,hri,hl,hr,hx,hc,?_,hres⟩
         cases ex with
         | normal=>exact .inl rfl
         | ret=>exact .inr rfl
         | exit id=>exact absurd rfl (n1 id)
         | pan v=>exact absurd rfl (n2 v)
        ·cases e
       ·cases e
      ·cases e
     ·cases e
    ·cases e
   ·cases e
  ·cases e
 ·cases e
theorem aThunk_or {call:CallF} {fu g:Nat} {cap:List Value} {v:Value} (e:aThunk P call fu g cap v h = some h'):aThunk0 P call g cap v h = some h'∨aThunk1 P call fu g cap v h = some h'∨aThunk2 P call fu g cap v h = some h':=by
 unfold aThunk at e
 split at e
 ·rename_i h1 h0
  injection e with e
  subst e
  exact .inl h0
 ·split at e
  ·rename_i h1 h0
   injection e with e
   subst e
   exact .inr (.inl h0)
  ·exact .inr (.inr e)
theorem aThunk_body {call:CallF} {fu g:Nat} {cap:List Value} {v:Value} (e:aThunk P call fu g cap v h = some h') : ∃ fn c,P.funcs[g]? = some fn∧fn.body = some c:=by
 rcases aThunk_or e with e|e|e
 ·obtain ⟨fn,id,ops,ri,t1,l,hf,hb,_⟩:=aThunk0_spec e
  exact ⟨fn,_,hf,hb⟩
 ·obtain ⟨fn,id,ops,y,ri,t1,h1,ex,t2,l,hf,hb,_⟩:=aThunk1_spec e
  exact ⟨fn,_,hf,hb⟩
 ·obtain ⟨fn,id,ops,x,y,ri,t1,h1,t2,h2,ex,t3,l,hf,hb,_⟩:=aThunk2_spec e
  exact ⟨fn,_,hf,hb⟩
theorem aThunk_grow {call:CallF} (C:CallOk P call.rel) (nm:namesOk P = true) {fu g:Nat} {cap:List Value} {v:Value} (hw:h.wlim≤h.next) (e:aThunk P call fu g cap v h = some h'):Grow h h':=by
 rcases aThunk_or e with e|e|e
 ·obtain ⟨fn,id,ops,ri,t1,l,_,_,_,_,hr,_⟩:=aThunk0_spec e
  exact rRegion_grow C nm hw (rRegion_of hr)
 ·exact aThunk1_grow C nm hw e
 ·obtain ⟨fn,id,ops,x,y,ri,t1,h1,t2,h2,ex,t3,l,_,_,_,_,hr,hx,hc,_⟩:=aThunk2_spec e
  have g1:=rRegion_grow C nm hw (rRegion_of hr)
  have g2:=g1.trans (aCode_grow C nm _ _ _ _ _ _ _ _ _ (g1.wl hw) hx)
  exact g2.trans (aCode_grow C nm _ _ _ _ _ _ _ _ _ (g2.wl hw) hc)
theorem aThunk_sound {call : CallF} (hm : P.follows .mixedOrders = true) (nm : namesOk P = true) (C : CallOk P call.rel) {fu g : Nat} {cap : List Value} {v : Value} (e : aThunk P call fu g cap v h = some h') (R : Rel w0 φ κ h w) (ha : ∀ x ∈ cap, okV h.N κ x) {u u' : FrameMode}
    (hu : ∀ (c0:Frame) (cs:List Frame),c0.mode = u→recoverD (c0 :: cs) = some (v,{ c0 with mode:=u' } :: cs)∨(recoverD (c0 :: cs) = none∧v = .nilIface∧{ c0 with mode:=u' } :: cs = c0 :: cs)) :
    CallsDIn Fence.wide 0 P g (cap.map (ren φ κ)).toArray u w fun e u2 w'=>(∃ x,e = .returned x)∧u2 = u'∧∃ φ' κ',Step w0 φ κ h φ' κ' h' w':=by
 rcases aThunk_or e with e|e|e
 ·obtain ⟨fn,id,ops,ri,t1,l,hf,hb,hri,hl,hr,hres⟩:=aThunk0_spec e
  refine thunk_calls0 (Rr:=fun w'=>∃ φ' κ',Step w0 φ κ h φ' κ' h' w') hm nm C hf hb hri hl (rRegion_of hr) R ha hu fun φ1 κ1 w1 a1 S1 A1=>?_
  obtain ⟨r1,_⟩:=results_sound (P:=P) (fn:=fn) A1 S1.rel hres
  exact ⟨A1.defers,_,r1,φ1,κ1,S1⟩
 ·exact aThunk1_sound hm nm C e R ha hu
 ·obtain ⟨fn,id,ops,x,y,ri,t1,h1,t2,h2,ex,t3,l,hf,hb,hri,hl,hr,hx,hc,hex,hres⟩:=aThunk2_spec e
  refine thunk_calls2 (Rr:=fun w'=>∃ φ' κ',Step w0 φ κ h φ' κ' h' w') hm nm C hf hb hri hl (rRegion_of hr) R ha hu fun φ1 κ1 w1 a1 S1 A1=>?_
  refine aCode_sound (rd:=none) hm nm C x _ _ _ _ _ _ _ _ hx _ ⟨none,[]⟩ w0 φ1 κ1 w1 _ S1.rel trivial (fun m hm=>by cases hm) A1 fun φ2 κ2 w2 a2 S2 _ A2=>⟨rfl,?_⟩
  refine aCode_sound (rd:=none) hm nm C y _ _ _ _ _ _ _ _ hc _ ⟨none,[]⟩ w0 φ2 κ2 w2 _ S2.rel trivial (fun m hm=>by cases hm) A2 fun φ3 κ3 w3 a3 S3 _ A3=>?_
  obtain ⟨r1,_⟩:=results_sound (P:=P) (fn:=fn) A3 S3.rel hres
  refine ⟨?_,A3.defers,_,r1,φ3,κ3,(S1.trans S2).trans S3⟩
  rcases hex with rfl|rfl
  ·exact .inl rfl
  ·exact .inr rfl
def ThOK (P:Program) (φ:Nat→Nat×Nat) (κ:Nat→Nat) (N:Nat→Prop):Option (Nat×List Value)→List Deferred→Prop
 | none,ds=>ds = []
 | some (g,cap),ds=>(∀ x∈cap,okV N κ x)∧∃ d fv capt,ds = [d]∧d.target = .fn fv capt∧∀ fn c,P.funcs[g]? = some fn→fn.body = some c→∀ w,(invoke d.target d.args).run P w = .ok (.enter g (cap.map (ren φ κ)).toArray) w
theorem ThOK.step {th:Option (Nat×List Value)} {ds:List Deferred} (T:ThOK P φ κ h.N th ds) (S:Step w0 φ κ h φ' κ' h' w'):ThOK P φ' κ' h'.N th ds:=by
 match th,T with
 | none,T=>exact T
 | some (g,cap),⟨T1,d,fv,capt,T2,T3,T4⟩ =>
  refine ⟨fun x hx=>S.ok (T1 x hx),d,fv,capt,T2,T3,fun fn c hf hb w1=>?_⟩
  rw [T4 fn c hf hb w1]
  have:cap.map (ren φ' κ') = cap.map (ren φ κ):=List.map_congr_left fun x hx=>S.ren (T1 x hx)
  rw [this]
theorem aRow_then {call : CallF} (hnm : namesOk P = true) (C : CallOk P call.rel) {ops : Array Oper} {rd : Option Nat} {Q : Exit → Act → World → Prop} (s : List Oper) : ∀ (l : List Oper) (t : Tr Value) (h : AH) (t' : Tr Value) (h' : AH), aRow P call nt ops l t h = some (t', h') →
    ∀ w0 φ κ w a,Rel w0 φ κ h w→ARel φ κ h.N nt t ds a→(∀ φ' κ' w' a',Step w0 φ κ h φ' κ' h' w'→ARel φ' κ' h'.N nt t' ds a'→wpListIn (fen rd) 0 P ops Q s a' w')→wpListIn (fen rd) 0 P ops Q (l++s) a w:=by
 intro l
 induction l with
 | nil =>
  intro t h t' h' e w0 φ κ w a R A hq
  simp only [aRow,Option.some.injEq,Prod.mk.injEq] at e
  obtain ⟨rfl,rfl⟩:=e
  exact hq φ κ w a R.step A
 | cons o r ih =>
  intro t h t' h' e w0 φ κ w a R A hq
  rw [List.cons_append]
  unfold wpListIn
  simp only [aRow] at e
  split at e
  ·rename_i hw
   rw [A.want hw,if_pos rfl]
   split at e
   ·rename_i v h1 hs
    split at e
    ·rename_i t1 hp
     refine rStep_sound hnm C R A.env (rStep_of hs) fun φ1 κ1 w1 S1 o1=>?_
     exact ih _ _ _ _ e w0 φ1 κ1 w1 _ S1.rel ((A.step S1).put hp o1) fun φ' κ' w' a' S A'=>hq φ' κ' w' a' (S1.trans S) A'
    ·cases e
   ·cases e
  ·rename_i hw
   rw [A.want hw,if_neg (by simp)]
   split at e
   ·rename_i t1 hp
    have:=A.put hp (ok_undef (κ:=κ))
    rw [ren_undef] at this
    exact ⟨fun f _=>fen_fn rd f,ih _ _ _ _ e w0 φ κ w _ R this hq⟩
   ·cases e
  ·cases e
theorem dfOf_spec {x:Code} {ops:Array Oper} {r:List Oper} {o:Oper} {c:Call} (e:dfOf x = some (ops,r,o,c)) : ∃ id,x = .region id ops false∧ops.toList = r++[o]∧o.op = .defer c∧o.guard = none:=by
 unfold dfOf at e
 split at e
 ·rename_i id ops'
  split at e
  ·rename_i o' r' hl
   split at e
   ·rename_i c' ho hg
    simp only [Option.some.injEq,Prod.mk.injEq] at e
    obtain ⟨rfl,rfl,rfl,rfl⟩:=e
    refine ⟨id,rfl,?_,ho,hg⟩
    have:=congrArg List.reverse hl
    simpa using this
   ·cases e
  ·cases e
 ·cases e
theorem aSplit_sound {call : CallF} (hm : P.follows .mixedOrders = true) (nm : namesOk P = true) (C : CallOk P call.rel) {fu : Nat} : ∀ (n : Nat) (c : Code) (t : Tr Value) (h : AH) (ex : AEx) (t' : Tr Value) (h' : AH) (th : Option (Nat × List Value)), aSplit P call nt fu n c t h = some (ex, t', h', th) →
    (h.wlim≤h.next→Grow h h')∧∀ (Q:Exit→Act→World→Prop) w0 φ κ w a,Rel w0 φ κ h w→ARel φ κ h.N nt t [] a →
     (∀ φ' κ' w' a',Step w0 φ κ h φ' κ' h' w'→ARel φ' κ' h'.N nt t' a'.defers a'→ThOK P φ' κ' h'.N th a'.defers→Q ex.toExit a' w')→c.wpIn Fence.wide 0 P Q a w:=by
 have code : ∀ (c : Code) (t : Tr Value) (h : AH) (e : AEx) (t' : Tr Value) (h' : AH), aCode P call nt none fu c t [] h = some (e, t', [], h') →
     (h.wlim≤h.next→Grow h h')∧∀ (d:List Deferred) (Q:Exit→Act→World→Prop) w0 φ κ w a,Rel w0 φ κ h w→ARel φ κ h.N nt t d a →
      (∀ φ' κ' w' a',Step w0 φ κ h φ' κ' h' w'→ARel φ' κ' h'.N nt t' d a'→Q e.toExit a' w')→c.wpIn Fence.wide 0 P Q a w:=by
  intro c t h e t' h' hc
  refine ⟨fun hw=>aCode_grow C nm _ _ _ _ _ _ _ _ _ hw hc,fun d Q w0 φ κ w a R A hq=>?_⟩
  exact aCode_sound (rd:=none) hm nm C c _ _ _ _ _ _ _ _ hc _ ⟨none,d⟩ w0 φ κ w _ R trivial (fun m hm=>by cases hm) (by simpa [mkD] using A) fun φ2 κ2 w2 a2 S2 _ A2=>hq φ2 κ2 w2 a2 S2 (by simpa [mkD] using A2)
 have fin : ∀ (c : Code) (t : Tr Value) (h : AH) (ex : AEx) (t' : Tr Value) (h' : AH) (th : Option (Nat × List Value)), aEnd0 (aCode P call nt none fu c t [] h) = some (ex, t', h', th) →
     (h.wlim≤h.next→Grow h h')∧∀ (Q:Exit→Act→World→Prop) w0 φ κ w a,Rel w0 φ κ h w→ARel φ κ h.N nt t [] a →
      (∀ φ' κ' w' a',Step w0 φ κ h φ' κ' h' w'→ARel φ' κ' h'.N nt t' a'.defers a'→ThOK P φ' κ' h'.N th a'.defers→Q ex.toExit a' w')→c.wpIn Fence.wide 0 P Q a w:=by
  intro c t h ex t' h' th he
  unfold aEnd0 at he
  split at he
  ·rename_i e1 t1 h1 hc
   simp only [Option.some.injEq,Prod.mk.injEq] at he
   obtain ⟨rfl,rfl,rfl,rfl⟩:=he
   obtain ⟨c1,c2⟩:=code _ _ _ _ _ _ hc
   refine ⟨c1,fun Q w0 φ κ w a R A hq=>c2 [] Q w0 φ κ w a R A fun φ2 κ2 w2 a2 S2 A2=>hq φ2 κ2 w2 a2 S2 (A2.defers ▸ A2) A2.defers⟩
  ·cases he
 intro n
 induction n with
 | zero=>intro c t h ex t' h' th he; exact fin c t h ex t' h' th (by simpa only [aSplit] using he)
 | succ n ih =>
  intro c t h ex t' h' th he
  by_cases hsq : ∃ x y,c = .seq x y
  ·obtain ⟨x,y,rfl⟩:=hsq
   simp only [aSplit] at he
   split at he
   ·rename_i ops r o cl hdf
    obtain ⟨id,rfl,hops,hop,hgd⟩:=dfOf_spec hdf
    split at he
    ·rename_i t1 h1 hrow
     split at he
     ·rename_i args hargs
      split at he
      ·rename_i f hcal
       split at he
       ·rename_i g first captured hfv
        split at he
        ·rename_i t2 hput
         split at he
         ·rename_i e1 t3 h3 hc
          simp only [Option.some.injEq,Prod.mk.injEq] at he
          obtain ⟨rfl,rfl,rfl,rfl⟩:=he
          obtain ⟨c1,c2⟩:=code _ _ _ _ _ _ hc
          refine ⟨fun hw=>?_,fun Q w0 φ κ w a R A hq=>?_⟩
          ·have g1:=aRow_grow C _ _ _ hw _ _ hrow
           exact g1.trans (c1 (g1.wl hw))
          refine wpIn_seq (wpIn_region_list ?_)
          rw [hops]
          refine aRow_then (rd:=none) nm C [o] _ _ _ _ _ hrow w0 φ κ w a R A fun φ1 κ1 w1 a1 S1 A1=>?_
          obtain ⟨a1r,a2r⟩:=aArgs_sound A1.env _ _ hargs
          obtain ⟨f1,f2⟩:=A1.env f _ hfv
          have ha' : cl.args.map a1.eval = (args.map (ren φ1 κ1)).toArray:=by apply Array.ext'; simpa using a1r
          unfold wpListIn
          have hwant:Region.wanted o (yielded ops a1.tmps) = true:=by unfold Region.wanted; rw [hgd]
          rw [if_pos hwant]
          refine ⟨fun f _=>fen_fn none f,?_⟩
          have hres:(resolve a1.eval cl o.type).run P w1 = .ok { target:=.fn (.func g) (renA φ1 κ1 captured),args:=renA φ1 κ1 first++(args.map (ren φ1 κ1)).toArray } w1:=by
           unfold resolve
           rw [ha',hcal]
           simp only [f1,ren,renF,Deferred.ofValue]
           rfl
          have hex:(Oper.semAt (fen none).round a1.eval o).run P w1 = .ok (.defer { target:=.fn (.func g) (renA φ1 κ1 captured),args:=renA φ1 κ1 first++(args.map (ren φ1 κ1)).toArray }) w1:=by
           show (execOp a1.eval o).run P w1 = _
           unfold execOp
           rw [hop]
           simp only [Sem.run_bind,hres,Result.andThen_ok,Sem.run_pure]
          rw [hex,Oper.uponIn_defer]
          unfold wpListIn
          have hokc : ∀ x∈first.toList++args++captured.toList,okV h1.N κ1 x:=by
           intro x hx
           simp only [okV] at f2
           rcases List.mem_append.1 hx with hx|hx
           ·rcases List.mem_append.1 hx with hx|hx
            ·exact okA_iff.1 f2.2.1 x hx
            ·exact a2r x hx
           ·exact okA_iff.1 f2.2.2 x hx
          have T1:ThOK P φ1 κ1 h1.N (some (g,first.toList++args++captured.toList)) [{ target:=.fn (.func g) (renA φ1 κ1 captured),args:=renA φ1 κ1 first++(args.map (ren φ1 κ1)).toArray }]:=by
           refine ⟨hokc,_,_,_,rfl,rfl,fun fn c hf hb w2=>?_⟩
           simp only [invoke]
           rw [callFunc_run nm hf hb]
           have hargs:renA φ1 κ1 first++(args.map (ren φ1 κ1)).toArray++renA φ1 κ1 captured = ((first.toList++args++captured.toList).map (ren φ1 κ1)).toArray:=by
            rw [renA_map,renA_map]
            apply Array.ext'
            simp
           rw [hargs]
          have A2:=A1.put hput (ok_undef (κ:=κ1))
          rw [ren_undef] at A2
          have A3:ARel φ1 κ1 h1.N nt t2 [{ target:=.fn (.func g) (renA φ1 κ1 captured),args:=renA φ1 κ1 first++(args.map (ren φ1 κ1)).toArray }] (Act.put { a1 with defers:={ target:=.fn (.func g) (renA φ1 κ1 captured),args:=renA φ1 κ1 first++(args.map (ren φ1 κ1)).toArray } :: a1.defers } o.dst undef):=by
           have hd:a1.defers = []:=A1.defers
           rw [hd]
           cases hdst:o.dst with
           | none=>rw [hdst] at A2; exact ⟨rfl,A2.size,A2.get,A2.ok⟩
           | some d=>rw [hdst] at A2; exact ⟨rfl,A2.size,A2.get,A2.ok⟩
          exact c2 _ Q w0 φ1 κ1 w1 _ S1.rel A3 fun φ2 κ2 w2 a2 S2 A4=>hq φ2 κ2 w2 a2 (S1.trans S2) (A4.defers ▸ A4) (A4.defers ▸ T1.step S2)
         ·cases he
        ·cases he
       ·cases he
      ·cases he
     ·cases he
    ·cases he
   ·split at he
    ·rename_i t1 h1 hc
     obtain ⟨c1,c2⟩:=code _ _ _ _ _ _ hc
     obtain ⟨i1,i2⟩:=ih _ _ _ _ _ _ _ he
     refine ⟨fun hw=>(c1 hw).trans (i1 ((c1 hw).wl hw)),fun Q w0 φ κ w a R A hq=>?_⟩
     refine wpIn_seq (c2 [] _ w0 φ κ w a R A fun φ1 κ1 w1 a1 S1 A1=>?_)
     exact i2 Q w0 φ1 κ1 w1 a1 S1.rel A1 fun φ2 κ2 w2 a2 S2 A2 T2=>hq φ2 κ2 w2 a2 (S1.trans S2) A2 T2
    ·cases he
    ·rename_i t1 h1 hc
     simp only [Option.some.injEq,Prod.mk.injEq] at he
     obtain ⟨rfl,rfl,rfl,rfl⟩:=he
     obtain ⟨c1,c2⟩:=code _ _ _ _ _ _ hc
     refine ⟨c1,fun Q w0 φ κ w a R A hq=>?_⟩
     exact wpIn_seq (c2 [] _ w0 φ κ w a R A fun φ1 κ1 w1 a1 S1 A1=>hq φ1 κ1 w1 a1 S1 (A1.defers ▸ A1) A1.defers)
    ·rename_i v t1 h1 hc
     simp only [Option.some.injEq,Prod.mk.injEq] at he
     obtain ⟨rfl,rfl,rfl,rfl⟩:=he
     obtain ⟨c1,c2⟩:=code _ _ _ _ _ _ hc
     refine ⟨c1,fun Q w0 φ κ w a R A hq=>?_⟩
     exact wpIn_seq (c2 [] _ w0 φ κ w a R A fun φ1 κ1 w1 a1 S1 A1=>hq φ1 κ1 w1 a1 S1 (A1.defers ▸ A1) A1.defers)
    ·cases he
  ·refine fin c t h ex t' h' th ?_
   cases c <;> first
    | exact absurd ⟨_,_,rfl⟩ hsq
    | simpa only [aSplit] using he
theorem thunk_leaves {call : CallF} (hm : P.follows .mixedOrders = true) (nm : namesOk P = true) (C : CallOk P call.rel) {fu g : Nat} {cap : List Value} {v : Value} {fn : Func} {h2 : AH} {l : List Value} (e : aThunk P call fu g cap v h = some h2) (R : Rel w0 φ κ h w)
    (A:ARel φ κ h.N nt t a.defers a) (T:ThOK P φ κ h.N (some (g,cap)) a.defers) (hres:aRes P t h2 fn.results.toList = some l) {u u' : FrameMode} (hur:u≠.run) (hus:settle u' = .returning)
    (hu : ∀ (c0:Frame) (cs:List Frame),c0.mode = u→recoverD (c0 :: cs) = some (v,{ c0 with mode:=u' } :: cs)∨(recoverD (c0 :: cs) = none∧v = .nilIface∧{ c0 with mode:=u' } :: cs = c0 :: cs)) {Rr:Ending→World→Prop}
    (hq : ∀ φ' κ' w',Step w0 φ κ h φ' κ' h2 w'→okV h2.N κ' (packV l)→Rr (.returned (ren φ' κ' (packV l))) w'):LeavesInM Fence.wide 0 P fn a.tmps Rr a.defers u w:=by
 obtain ⟨T1,d,fv,capt,T2,T3,T4⟩:=T
 obtain ⟨fn',_,hf,hb⟩:=aThunk_body e
 have A' : ARel φ κ h.N nt t [d] a:=T2 ▸ A
 rw [T2]
 refine ⟨hur,.inr ⟨fun hd=>(by cases hd),fv,capt,g,_,T3,T4 fn' _ hf hb w,fun _ _=>trivial,?_⟩⟩
 refine (aThunk_sound hm nm C e R T1 hu).mono ?_
 rintro en u2 w' ⟨⟨x,rfl⟩,rfl,φ',κ',S⟩
 show LeavesInM Fence.wide 0 P fn a.tmps Rr [] (settle u2) w'
 rw [hus]
 obtain ⟨r1,r2⟩:=results_sound (P:=P) (fn:=fn) (A'.step S) S.rel hres
 exact ⟨_,r1,hq φ' κ' w' S r2⟩
theorem aFunE_sound {call : CallF} (hm : P.follows .mixedOrders = true) (nm : namesOk P = true) (C : CallOk P call.rel) {fu f : Nat} {args : List Value} {p : Bool} {v : Value} (e : aFunE P call fu f args h = some (p, v, h')) :
    (h.wlim≤h.next→Grow h h')∧(∃ fn c,P.funcs[f]? = some fn∧fn.body = some c)∧∀ w0 φ κ w,Rel w0 φ κ h w→(∀ x∈args,okV h.N κ x) →
     Calls P f (args.map (ren φ κ)).toArray w fun e w'=>∃ φ' κ',e = (if p then .panicked [{ v:=v,recovered:=false }] else .returned (ren φ' κ' v))∧Step w0 φ κ h φ' κ' h' w'∧(p = false→okV h'.N κ' v):=by
 unfold aFunE at e
 split at e
 ·rename_i fn hf
  split at e
  ·rename_i c hb
   split at e
   ·rename_i hl
    have enter : ∀ {w0 : World} {φ : Nat → Nat × Nat} {κ : Nat → Nat} {w : World} {ex : AEx} {t1 : Tr Value} {h1 : AH} {th : Option (Nat × List Value)} {R : Ending → World → Prop}, aSplit P call fn.ntmps fu fu c (argTr 0 args .leaf) h = some (ex, t1, h1, th) → Rel w0 φ κ h w → (∀ x ∈ args, okV h.N κ x) →
        (∀ φ' κ' w' a',Step w0 φ κ h φ' κ' h1 w'→ARel φ' κ' h1.N fn.ntmps t1 a'.defers a'→ThOK P φ' κ' h1.N th a'.defers→bodyPostM Fence.wide 0 P fn R ex.toExit a' w')→Calls P f (args.map (ren φ κ)).toArray w R:=by
     intro w0 φ κ w ex t1 h1 th R hs RR ha hq
     refine callsIn_wide.1 (callsIn_of_wp_marks (F:=Fence.wide) (n:=0) hf hb trivial ?_ rfl)
     exact (aSplit_sound hm nm C _ _ _ _ _ _ _ _ hs).2 _ w0 φ κ w _ RR (args_rel hl ha) hq
    have gs : ∀ {ex:AEx} {t1:Tr Value} {h1:AH} {th:Option (Nat×List Value)},aSplit P call fn.ntmps fu fu c (argTr 0 args .leaf) h = some (ex,t1,h1,th)→h.wlim≤h.next→Grow h h1:=fun hs=>(aSplit_sound hm nm C _ _ _ _ _ _ _ _ hs).1
    split at e
    ·cases e
    ·rename_i u t1 h1 hs
     simp only [Option.some.injEq,Prod.mk.injEq] at e
     obtain ⟨rfl,rfl,rfl⟩:=e
     refine ⟨gs hs,⟨fn,c,hf,hb⟩,fun w0 φ κ w R ha=>enter hs R ha fun φ1 κ1 w1 a1 S1 A1 T1=>?_⟩
     have T1:a1.defers = []:=T1
     show LeavesInM Fence.wide 0 P fn a1.tmps _ a1.defers (.panicking _) w1
     rw [T1]
     exact ⟨φ1,κ1,rfl,S1,fun h=>(by cases h)⟩
    ·rename_i ex t1 h1 n1 n2 hs
     split at e
     ·rename_i l hres
      simp only [Option.some.injEq,Prod.mk.injEq] at e
      obtain ⟨rfl,rfl,rfl⟩:=e
      refine ⟨gs hs,⟨fn,c,hf,hb⟩,fun w0 φ κ w R ha=>enter hs R ha fun φ1 κ1 w1 a1 S1 A1 T1=>?_⟩
      have T1:a1.defers = []:=T1
      have hfin:LeavesInM Fence.wide 0 P fn a1.tmps (fun e w'=>∃ φ' κ',e = (if false = true then .panicked [{ v:=packV l,recovered:=false }] else .returned (ren φ' κ' (packV l)))∧Step w0 φ κ h φ' κ' h1 w'∧(false = false→okV h1.N κ' (packV l))) a1.defers .returning w1:=by
       obtain ⟨r1,r2⟩:=results_sound (P:=P) (fn:=fn) A1 S1.rel hres
       rw [T1]
       exact ⟨_,r1,φ1,κ1,rfl,S1,fun _=>r2⟩
      cases ex with
      | normal=>exact hfin
      | ret=>exact hfin
      | exit id=>exact absurd rfl (n1 id)
      | pan v=>exact absurd rfl (n2 v)
     ·cases e
    ·rename_i u t1 h1 g cap hs
     split at e
     ·rename_i hnu
      split at e
      ·rename_i h2 hth
       split at e
       ·rename_i l hres
        simp only [Option.some.injEq,Prod.mk.injEq] at e
        obtain ⟨rfl,rfl,rfl⟩:=e
        refine ⟨fun hw=>(gs hs hw).trans (aThunk_grow C nm ((gs hs hw).wl hw) hth),⟨fn,c,hf,hb⟩,fun w0 φ κ w R ha=>enter hs R ha fun φ1 κ1 w1 a1 S1 A1 T1=>?_⟩
        show LeavesInM Fence.wide 0 P fn a1.tmps _ a1.defers (.panicking _) w1
        exact thunk_leaves hm nm C hth S1.rel A1 T1 hres (by simp) rfl (fun c0 cs h=>.inl (rec_pan c0 cs h)) fun φ' κ' w' S o=>⟨φ',κ',rfl,S1.trans S,fun _=>o⟩
       ·cases e
      ·cases e
     ·cases e
    ·rename_i ex t1 h1 g cap n1 n2 hs
     split at e
     ·rename_i h2 hth
      split at e
      ·rename_i l hres
       simp only [Option.some.injEq,Prod.mk.injEq] at e
       obtain ⟨rfl,rfl,rfl⟩:=e
       refine ⟨fun hw=>(gs hs hw).trans (aThunk_grow C nm ((gs hs hw).wl hw) hth),⟨fn,c,hf,hb⟩,fun w0 φ κ w R ha=>enter hs R ha fun φ1 κ1 w1 a1 S1 A1 T1=>?_⟩
       have hfin:LeavesInM Fence.wide 0 P fn a1.tmps (fun e w'=>∃ φ' κ',e = (if false = true then .panicked [{ v:=packV l,recovered:=false }] else .returned (ren φ' κ' (packV l)))∧Step w0 φ κ h φ' κ' h2 w'∧(false = false→okV h2.N κ' (packV l))) a1.defers .returning w1 :=
        thunk_leaves hm nm C hth S1.rel A1 T1 hres (by simp) rfl (fun c0 cs h=>.inr ⟨(rec_ret c0 cs h).1,rfl,(rec_ret c0 cs h).2⟩) fun φ' κ' w' S o=>⟨φ',κ',rfl,S1.trans S,fun _=>o⟩
       cases ex with
       | normal=>exact hfin
       | ret=>exact hfin
       | exit id=>exact absurd rfl (n1 id)
       | pan v=>exact absurd rfl (n2 v)
      ·cases e
     ·cases e
    ·cases e
   ·cases e
  ·cases e
 ·cases e
end
end Go.Vm
