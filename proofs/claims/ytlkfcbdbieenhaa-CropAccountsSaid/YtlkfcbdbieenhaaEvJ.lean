/-
  A machine for closed runs, tenth part: frames, one step, a row of steps.
-/
import Derived.Test.YtlkfcbdbieenhaaEvI
import Derived.TacticsIn
import Derived.RangeFuncCalls
namespace Go.Ev
open Go Go.RowKit

structure CallF where
  fn : Nat → List Value → AH → Option (Value × AH)
  yld : Nat → List Value → AH → Option (Value × AH)

/- the fence of an activation: as wide as can be; of a round of a loop, that round's -/
def fen : Option Nat → Fence
  | none => Fence.wide
  | some l => Fence.wide.inRound l

def aEnv (t : Tr Value) : Env
  | .tmp i => some ((t.get i).getD undef)
  | .const v => if noAddr v then some v else none
  | .global _ => none
  | .func f => some (.func (.func f) #[] #[])

def aStep (P : Program) (call : CallF) (h : AH) (ρ : Env) (o : Oper) : Option (Value × AH) :=
  match o.op with
  | .call c =>
    match aArgs ρ c.args.toList with
    | some args =>
      match c.callee with
      | .value f => match ρ f with
        | some (.func (.func fid) first captured) => call.fn fid (first.toList ++ args ++ captured.toList) h
        | some (.func (.yield k) first _) => if h.sees k then call.yld k (first.toList ++ args) h else none
        | _ => none
      | .builtin b => aBuiltin P h b c.argTypes o.type args
      | .invoke _ _ => none
    | none => none
  | op => aOp P h ρ op

/- what a call is good for -/
structure CallOk (P : Program) (call : CallF) : Prop where
  grow : ∀ f args h v h', h.wlim ≤ h.next → call.fn f args h = some (v, h') → Grow h h'
  body : ∀ f args h v h', call.fn f args h = some (v, h') → ∃ fn c, P.funcs[f]? = some fn ∧ fn.body = some c
  run : ∀ f args h v h', call.fn f args h = some (v, h') → ∀ w0 φ κ w, Rel w0 φ κ h w → (∀ x ∈ args, okV h.N κ x) →
    Calls P f (args.map (ren φ κ)).toArray w fun e w' => ∃ φ' κ', e = .returned (ren φ' κ' v) ∧ Step w0 φ κ h φ' κ' h' w' ∧ okV h'.N κ' v
  growY : ∀ k args h v h', h.wlim ≤ h.next → call.yld k args h = some (v, h') → Grow h h'
  runY : ∀ k args h v h', call.yld k args h = some (v, h') → ∀ w0 φ κ w, Rel w0 φ κ h w → (∀ x ∈ args, okV h.N κ x) →
    ∃ f tmps assign body, (Instr.yield (φ k).1 (args.map (ren φ κ)).toArray).run P w = .ok (.round (φ k).1 f tmps assign body) w ∧
      RoundIn Fence.wide 0 P (φ k).1 f tmps assign body w fun e w' => ∃ φ' κ', e = .returned (ren φ' κ' v) ∧ Step w0 φ κ h φ' κ' h' w' ∧ okV h'.N κ' v

def namesOk (P : Program) : Bool := P.funcs.toList.all fun f => f.name != "runtime.NumGoroutine"

structure ARel (φ : Nat → Nat × Nat) (κ : Nat → Nat) (N : Nat → Prop) (nt : Nat) (t : Tr Value) (ds : List Deferred) (a : Act) : Prop where
  defers : a.defers = ds
  size : a.tmps.size = nt
  get : ∀ d, d < nt → a.tmps[d]? = some (ren φ κ ((t.get d).getD undef))
  ok : ∀ d, okV N κ ((t.get d).getD undef)
  out : ∀ d, nt ≤ d → t.get d = none

/- a value laid into a slot -/
def aPut (nt : Nat) (t : Tr Value) : Option Tmp → Value → Option (Tr Value)
  | none, _ => some t
  | some d, v => if d < nt then some (t.put d (some v)) else none

def aWant (ops : Array Oper) (t : Tr Value) (o : Oper) : Bool :=
  match o.guard with
  | none => true
  | some (j, want) =>
    match (ops[j]?).bind (·.dst) with
    | some d => match t.get d with
      | some (.bool b) => b == want
      | _ => false
    | none => false

def aRow (P : Program) (call : CallF) (nt : Nat) (ops : Array Oper) : List Oper → Tr Value → AH → Option (Tr Value × AH)
  | [], t, h => some (t, h)
  | o :: r, t, h =>
    if aWant ops t o then
      match aStep P call h (aEnv t) o with
      | some (v, h') => match aPut nt t o.dst v with
        | some t' => aRow P call nt ops r t' h'
        | none => none
      | none => none
    else match aPut nt t o.dst undef with
      | some t' => aRow P call nt ops r t' h
      | none => none

section
variable {P : Program} {w0 w w' : World} {φ φ' : Nat → Nat × Nat} {κ κ' : Nat → Nat} {h h' h'' : AH} {ρ : Env} {ev : Operand → Value} {nt : Nat} {t t' : Tr Value} {a a' : Act} {call : CallF} {ds : List Deferred} {rd : Option Nat}

theorem ren_undef : ren φ κ undef = undef := rfl
theorem ok_undef {N : Nat → Prop} : okV N κ undef := by simp [undef, okV, okA, okL]

theorem ARel.env {N : Nat → Prop} (A : ARel φ κ N nt t ds a) : ERel φ κ N (aEnv t) a.eval := by
  intro x v e
  cases x with
  | tmp i =>
    simp only [aEnv, Option.some.injEq] at e
    subst e
    refine ⟨?_, A.ok i⟩
    simp only [Act.eval]
    by_cases hi : i < nt
    · rw [Array.getD_eq_getD_getElem?, A.get i hi]; rfl
    · rw [Array.getD_eq_getD_getElem?, Array.getElem?_eq_none (by rw [A.size]; exact Nat.le_of_not_lt hi), A.out i (Nat.le_of_not_lt hi)]; rfl
  | const u =>
    simp only [aEnv] at e
    split at e
    · rename_i hn
      injection e with e
      subst e
      exact ⟨(ren_noAddr _ _ _ hn).symm, ok_noAddr _ _ _ hn⟩
    · cases e
  | global g => cases e
  | func f =>
    simp only [aEnv, Option.some.injEq] at e
    subst e
    exact ⟨rfl, by simp [okV, okF, okA, okL]⟩

theorem ARel.step (A : ARel φ κ h.N nt t ds a) (S : Step w0 φ κ h φ' κ' h' w') : ARel φ' κ' h'.N nt t ds a :=
  ⟨A.defers, A.size, fun d hd => by rw [A.get d hd, S.ren (A.ok d)], fun d => S.ok (A.ok d), A.out⟩

theorem ARel.put {N : Nat → Prop} (A : ARel φ κ N nt t ds a) {dst : Option Tmp} {v : Value} (e : aPut nt t dst v = some t') (o : okV N κ v) : ARel φ κ N nt t' ds (a.put dst (ren φ κ v)) := by
  cases dst with
  | none => simp only [aPut, Option.some.injEq] at e; subst e; exact A
  | some d =>
    simp only [aPut] at e
    split at e
    · rename_i hd
      injection e with e
      subst e
      refine ⟨A.defers, by simp [Act.put, A.size], fun i hi => ?_, fun i => ?_, fun i hi => ?_⟩
      · simp only [Act.put]
        rw [Tr.get_put]
        by_cases e : i = d
        · subst e
          rw [Array.getElem?_setIfInBounds_self_of_lt (by rw [A.size]; exact hd), if_pos rfl]
          rfl
        · rw [Array.getElem?_setIfInBounds_ne (fun x => e x.symm), if_neg e]
          exact A.get i hi
      · rw [Tr.get_put]
        by_cases e : i = d
        · rw [if_pos e]; exact o
        · rw [if_neg e]; exact A.ok i
      · rw [Tr.get_put, if_neg (fun (x : i = d) => Nat.lt_irrefl d (Nat.lt_of_lt_of_le hd (x ▸ hi)))]
        exact A.out i hi
    · cases e

theorem ARel.want {N : Nat → Prop} (A : ARel φ κ N nt t ds a) (ops : Array Oper) (o : Oper) : Region.wanted o (yielded ops a.tmps) = aWant ops t o := by
  unfold Region.wanted aWant
  cases hg : o.guard with
  | none => rfl
  | some g =>
    obtain ⟨j, want⟩ := g
    simp only [yielded]
    cases hd : (ops[j]?).bind (·.dst) with
    | none => rfl
    | some d =>
      simp only [Option.bind_some]
      by_cases hi : d < nt
      · rw [A.get d hi]
        cases hv : t.get d with
        | none => rfl
        | some v =>
          cases v with
          | bool b => cases b <;> cases want <;> rfl
          | pointer x => cases x <;> rfl
          | slice x _ _ => cases x <;> rfl
          | map x => cases x <;> rfl
          | _ => rfl
      · rw [Array.getElem?_eq_none (by rw [A.size]; exact Nat.le_of_not_lt hi), A.out d (Nat.le_of_not_lt hi)]
        rfl

/- the run of an operation that calls -/
theorem execOp_call {o : Oper} {c : Call} (ho : o.op = .call c) : execOp ev o = (do let d ← resolve ev c o.type; invoke d.target d.args) := by
  unfold execOp; rw [ho]

theorem callFunc_run (hnm : namesOk P = true) {f : FuncId} {fn : Func} {c : Code} (hf : P.funcs[f]? = some fn) (hb : fn.body = some c) (args : Array Value) (w : World) : (callFunc f args).run P w = .ok (.enter f args) w := by
  have hne : (fn.name == "runtime.NumGoroutine") = false := by
    have := List.all_eq_true.1 hnm fn (by
      obtain ⟨hlt, e⟩ := Array.getElem?_eq_some_iff.1 hf
      rw [← e]
      simp)
    simpa using this
  unfold callFunc
  simp only [program, Sem.run_bind, Sem.run, Result.andThen_ok, hf, hne, hb]
  rfl

theorem aStep_grow (C : CallOk P call) (hw : h.wlim ≤ h.next) {o : Oper} {v : Value} (e : aStep P call h ρ o = some (v, h')) : Grow h h' := by
  unfold aStep at e
  split at e
  · split at e
    · split at e
      · split at e
        · exact C.grow _ _ _ _ _ hw e
        · split at e
          · exact C.growY _ _ _ _ _ hw e
          · cases e
        · cases e
      · exact aBuiltin_grow hw e
      · cases e
    · cases e
  · exact aOp_grow hw e

theorem calls_fen {f : FuncId} {args : Array Value} {R : Ending → World → Prop} (n : Nat) (rd : Option Nat) (hc : Calls P f args w R) : CallsIn (fen rd) n P f args w R := by
  cases rd with
  | none => exact callsIn_wide.2 hc
  | some l => exact (callsIn_wide.2 hc).inRound l
theorem round_fen {l : Nat} {f : FuncId} {tmps : Array Value} {x y : Code} {R : Ending → World → Prop} {n : Nat} (rd : Option Nat) (hc : RoundIn Fence.wide n P l f tmps x y w R) : RoundIn (fen rd) n P l f tmps x y w R := by
  cases rd with
  | none => exact hc
  | some l' => exact hc
theorem fen_fn (rd : Option Nat) (f : FuncId) : (fen rd).fn f := by cases rd <;> trivial
theorem fen_depth (rd : Option Nat) : (fen rd).depth = none := by cases rd <;> rfl

theorem upon_leaves {F : Fence} {n : Nat} {r : Result Next} {v : Value} (hl : Leaves r v w') {o : Oper} {next : Act → World → Prop} {Q : Exit → Act → World → Prop} (hn : next (a.put o.dst v) w') : o.uponIn F n P a next Q r := by
  rcases hl with rfl | ⟨rfl, rfl⟩
  · exact hn
  · exact hn

theorem aStep_sound (hnm : namesOk P = true) (C : CallOk P call) (R : Rel w0 φ κ h w) (E : ERel φ κ h.N ρ a.eval) {o : Oper} {v : Value} (e : aStep P call h ρ o = some (v, h')) {next : Act → World → Prop} {Q : Exit → Act → World → Prop}
    (hn : ∀ φ' κ' w', Step w0 φ κ h φ' κ' h' w' → okV h'.N κ' v → next (a.put o.dst (ren φ' κ' v)) w') : o.wpIn (fen rd) 0 P a w next Q := by
  have hnd : ∀ c, o.op ≠ .defer c := by
    intro c hc
    unfold aStep at e
    rw [hc] at e
    simp [aOp] at e
  refine ⟨fun f _ => fen_fn rd f, ?_⟩
  rw [Oper.semAt_eq _ _ _ hnd]
  have prim : Sound w0 φ κ h h' v ((execOp a.eval o).run P w) → o.uponIn (fen rd) 0 P a next Q ((execOp a.eval o).run P w) := by
    rintro ⟨φ', κ', w', h1, h2, h3⟩
    exact upon_leaves h1 (hn φ' κ' w' h2 h3)
  unfold aStep at e
  split at e
  · rename_i c ho
    split at e
    · rename_i args ha
      obtain ⟨a1, a2⟩ := aArgs_sound E _ _ ha
      have ha' : c.args.map a.eval = (args.map (ren φ κ)).toArray := by apply Array.ext'; simpa using a1
      split at e
      · rename_i f hcal
        split at e
        · rename_i fid first captured hf
          obtain ⟨f1, f2⟩ := E f _ hf
          obtain ⟨fn, body, hfn, hbody⟩ := C.body _ _ _ _ _ e
          rw [execOp_call ho]
          have hres : (resolve a.eval c o.type).run P w = .ok { target := .fn (.func fid) (renA φ κ captured), args := renA φ κ first ++ (args.map (ren φ κ)).toArray } w := by
            unfold resolve
            rw [ha', hcal]
            simp only [f1, ren, renF, Deferred.ofValue]
            rfl
          rw [Sem.run_bind, hres]
          simp only [Result.andThen_ok, invoke]
          rw [callFunc_run hnm hfn hbody, Oper.uponIn_enter]
          refine ⟨fun hd => (by rw [fen_depth] at hd; cases hd), ?_⟩
          have hargs : renA φ κ first ++ (args.map (ren φ κ)).toArray ++ renA φ κ captured = ((first.toList ++ args ++ captured.toList).map (ren φ κ)).toArray := by
            rw [renA_map, renA_map]
            apply Array.ext'
            simp
          rw [hargs]
          refine calls_fen _ rd ((C.run _ _ _ _ _ e w0 φ κ w R ?_).mono ?_)
          · intro x hx
            simp only [okV] at f2
            rcases List.mem_append.1 hx with hx | hx
            · rcases List.mem_append.1 hx with hx | hx
              · exact okA_iff.1 f2.2.1 x hx
              · exact a2 x hx
            · exact okA_iff.1 f2.2.2 x hx
          · rintro en w' ⟨φ', κ', rfl, h2, h3⟩
            exact hn φ' κ' w' h2 h3
        · rename_i k first captured hf
          split at e
          · obtain ⟨f1, f2⟩ := E f _ hf
            rw [execOp_call ho]
            have hres : (resolve a.eval c o.type).run P w = .ok { target := .fn (.yield (φ k).1) (renA φ κ captured), args := renA φ κ first ++ (args.map (ren φ κ)).toArray } w := by
              unfold resolve
              rw [ha', hcal]
              simp only [f1, ren, renF, Deferred.ofValue]
              rfl
            rw [Sem.run_bind, hres]
            simp only [Result.andThen_ok, invoke]
            have hargs : renA φ κ first ++ (args.map (ren φ κ)).toArray = ((first.toList ++ args).map (ren φ κ)).toArray := by
              rw [renA_map]
              apply Array.ext'
              simp
            rw [hargs]
            obtain ⟨fu, tmps, x, y, hy, hround⟩ := C.runY _ _ _ _ _ e w0 φ κ w R (by
              intro x hx
              simp only [okV] at f2
              rcases List.mem_append.1 hx with hx | hx
              · exact okA_iff.1 f2.2.1 x hx
              · exact a2 x hx)
            rw [hy, Oper.uponIn_round]
            refine ⟨fun hd => (by rw [fen_depth] at hd; cases hd), round_fen rd (hround.mono ?_)⟩
            rintro en w' ⟨φ', κ', rfl, h2, h3⟩
            exact hn φ' κ' w' h2 h3
          · cases e
        · cases e
      · rename_i b hcal
        refine prim ?_
        rw [execOp_call ho]
        have hres : (resolve a.eval c o.type).run P w = .ok { target := .builtin b c.argTypes o.type (c.args.map fun | .const _ => true | _ => false), args := (args.map (ren φ κ)).toArray } w := by
          unfold resolve
          rw [ha', hcal]
          rfl
        rw [Sem.run_bind, hres]
        simp only [Result.andThen_ok, invoke]
        exact aBuiltin_sound R e a2
      · cases e
    · cases e
  · exact prim (aOp_sound R E e)

theorem aRow_grow (C : CallOk P call) {ops : Array Oper} : ∀ (l : List Oper) (t : Tr Value) (h : AH), h.wlim ≤ h.next → ∀ t' h', aRow P call nt ops l t h = some (t', h') → Grow h h' := by
  intro l
  induction l with
  | nil => intro t h _ t' h' e; simp only [aRow, Option.some.injEq, Prod.mk.injEq] at e; obtain ⟨_, rfl⟩ := e; exact Grow.refl _
  | cons o r ih =>
    intro t h hw t' h' e
    simp only [aRow] at e
    split at e
    · split at e
      · rename_i v h1 hs
        have g1 := aStep_grow C hw hs
        split at e
        · exact g1.trans (ih _ _ (g1.wl hw) _ _ e)
        · cases e
      · cases e
    · split at e
      · exact ih _ _ hw _ _ e
      · cases e

theorem aRow_sound (hnm : namesOk P = true) (C : CallOk P call) {ops : Array Oper} {Q : Exit → Act → World → Prop} : ∀ (l : List Oper) (t : Tr Value) (h : AH) (t' : Tr Value) (h' : AH), aRow P call nt ops l t h = some (t', h') →
    ∀ w0 φ κ w a, Rel w0 φ κ h w → ARel φ κ h.N nt t ds a → (∀ φ' κ' w' a', Step w0 φ κ h φ' κ' h' w' → ARel φ' κ' h'.N nt t' ds a' → Q .normal a' w') → wpListIn (fen rd) 0 P ops Q l a w := by
  intro l
  induction l with
  | nil =>
    intro t h t' h' e w0 φ κ w a R A hq
    simp only [aRow, Option.some.injEq, Prod.mk.injEq] at e
    obtain ⟨rfl, rfl⟩ := e
    exact hq φ κ w a R.step A
  | cons o r ih =>
    intro t h t' h' e w0 φ κ w a R A hq
    simp only [aRow] at e
    unfold wpListIn
    rw [A.want ops o]
    split at e
    · rename_i hwant
      rw [if_pos hwant]
      split at e
      · rename_i v h1 hs
        split at e
        · rename_i t1 hp
          refine aStep_sound hnm C R A.env hs fun φ1 κ1 w1 S1 o1 => ?_
          exact ih _ _ _ _ e w0 φ1 κ1 w1 _ S1.rel ((A.step S1).put hp o1) fun φ' κ' w' a' S A' => hq φ' κ' w' a' (S1.trans S) A'
        · cases e
      · cases e
    · rename_i hwant
      rw [if_neg hwant]
      split at e
      · rename_i t1 hp
        have := A.put hp (ok_undef (κ := κ))
        rw [ren_undef] at this
        exact ⟨fun f _ => fen_fn rd f, ih _ _ _ _ e w0 φ κ w _ R this hq⟩
      · cases e
end
end Go.Ev
