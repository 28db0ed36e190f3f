/-
  A machine for closed runs, eighteenth part: calls.
-/
import Derived.Test.YtlkfcbdbieenhaaEvQ
namespace Go.Ev
open Go Go.RowKit

def aRes (P : Program) (t : Tr Value) (h : AH) : List ResultVar → Option (List Value)
  | [] => some []
  | .tmp d :: r => match aRes P t h r with
    | some l => some ((t.get d).getD undef :: l)
    | none => none
  | .cell d ty :: r => match aLoad P h ty ((t.get d).getD undef), aRes P t h r with
    | some v, some l => some (v :: l)
    | _, _ => none
def packV : List Value → Value
  | [v] => v
  | l => .tuple ⟨l⟩

def argTr (i : Nat) : List Value → Tr Value → Tr Value
  | [], t => t
  | v :: r, t => argTr (i + 1) r (t.put i (some v))

abbrev Hook := Nat → Option (List Value → AH → Option (Value × AH))
def hookFn (hook : Hook) : Nat → List Value → AH → Option (Value × AH) := fun f args h => match hook f with
  | some g => g args h
  | none => none
def noHook : Hook := fun _ => none

/- the marks of loops over functions, at a function's end -/
def aMarks : List Nat → AH → Option AH
  | [], h => some h
  | m :: r, h => match h.get m with
    | some (.deferred true) => if h.wlim ≤ m then aMarks r (h.put m (some (.deferred false))) else none
    | _ => none

def aFun (P : Program) (call : CallF) (fu : Nat) (f : Nat) (args : List Value) (h : AH) : Option (Value × AH) :=
  match P.funcs[f]? with
  | some fn =>
    match fn.body with
    | some c =>
      if args.length ≤ fn.ntmps then
        match aCode P call fn.ntmps none fu c (argTr 0 args .leaf) [] h with
        | some (.exit _, _, _, _) => none
        | some (_, t, ms, h1) => match aMarks ms h1 with
          | some h' => match aRes P t h' fn.results.toList with
            | some l => some (packV l, h')
            | none => none
          | none => none
        | none => none
      else none
    | none => none
  | none => none

def aPuts (nt : Nat) : List (Tmp × Value) → Tr Value → Option (Tr Value)
  | [], t => some t
  | (d, v) :: r, t => match aPut nt t (some d) v with
    | some t' => aPuts nt r t'
    | none => none

def isNormal : AEx → Bool
  | .normal => true
  | _ => false

def aYld (P : Program) (call : CallF) (fu : Nat) (k : Nat) (args : List Value) (h : AH) : Option (Value × AH) :=
  match h.get k with
  | some (.loop r) =>
    if r.params.size = args.length ∧ h.wlim ≤ k then
      match aPuts r.nt (r.params.toList.zip args) r.t with
      | some t0 =>
        match aCode P call r.nt (some k) fu r.assign t0 [] h with
        | some (.normal, t1, ms1, h1) =>
          match h1.get k with
          | some (.loop r1) =>
            if r1.state = .ready then
              match aCode P call r.nt (some k) fu r.body t1 ms1 (h1.put k (some (.loop { r1 with state := .busy, pending := r1.pending }))) with
              | some (e, _, _, h2) =>
                match h2.get k with
                | some (.loop r2) => some (.bool (isNormal e), h2.put k (some (.loop { r2 with state := if isNormal e then .ready else .done, pending := e.jump })))
                | _ => none
              | none => none
            else none
          | _ => none
        | _ => none
      | none => none
    else none
  | _ => none

def aRun (P : Program) (hook : Hook) (fu : Nat) : Nat → CallF
  | 0 => ⟨fun _ _ _ => none, fun _ _ _ => none⟩
  | n + 1 => ⟨fun f args h => match hook f with
      | some g => g args h
      | none => aFun P (aRun P hook fu n) fu f args h, aYld P (aRun P hook fu n) fu⟩

section
variable {P : Program} {w0 w w' : World} {φ φ' : Nat → Nat × Nat} {κ κ' : Nat → Nat} {a : Act} {h h' : AH} {t t' : Tr Value} {nt : Nat} {ds : List Deferred} {call : CallF}

theorem argTr_get : ∀ (l : List Value) (i : Nat) (t : Tr Value) (d : Nat), (argTr i l t).get d = if i ≤ d ∧ d < i + l.length then l[d - i]? else t.get d := by
  intro l
  induction l with
  | nil => intro i t d; simp only [argTr]; rw [if_neg (by simp)]
  | cons v r ih =>
    intro i t d
    simp only [argTr]
    rw [ih]
    by_cases h1 : i + 1 ≤ d ∧ d < i + 1 + r.length
    · rw [if_pos h1, if_pos (by simp; omega), show d - i = (d - (i + 1)) + 1 from by omega]
      simp
    · rw [if_neg h1, Tr.get_put]
      by_cases e : d = i
      · subst e; rw [if_pos rfl, if_pos (by simp)]; simp
      · rw [if_neg e, if_neg (by simp; omega)]

theorem mapM_res (A : ARel φ κ h.N nt t ds a) (R : Rel w0 φ κ h w) (F : ResultVar → Sem Value) (F1 : ∀ d, F (.tmp d) = pure (a.tmps.getD d undef)) (F2 : ∀ d ty, F (.cell d ty) = (do loadVar ty (← asAddr (a.tmps.getD d undef)))) : ∀ (l : List ResultVar) (vs : List Value), aRes P t h l = some vs →
    (l.mapM F).run P w = .ok (vs.map (ren φ κ)) w ∧ ∀ v ∈ vs, okV h.N κ v := by
  have hget : ∀ d, a.tmps.getD d undef = ren φ κ ((t.get d).getD undef) := by
    intro d
    have := (A.env (.tmp d) ((t.get d).getD undef) rfl).1
    exact this
  intro l
  induction l with
  | nil => intro vs e; simp only [aRes, Option.some.injEq] at e; subst e; exact ⟨rfl, by simp⟩
  | cons r l ih =>
    intro vs e
    rw [List.mapM_cons]
    cases r with
    | tmp d =>
      simp only [aRes] at e
      split at e
      · rename_i vl hl
        injection e with e
        subst e
        obtain ⟨i1, i2⟩ := ih vl hl
        refine ⟨?_, fun v hv => ?_⟩
        · rw [F1]
          simp only [Sem.run_bind, Sem.run_pure, Result.andThen_ok, i1, List.map_cons]
          rw [hget]
        · rcases List.mem_cons.1 hv with hv | hv
          · exact hv ▸ A.ok d
          · exact i2 v hv
      · cases e
    | cell d ty =>
      simp only [aRes] at e
      split at e
      · rename_i v vl hv hl
        injection e with e
        subst e
        obtain ⟨i1, i2⟩ := ih vl hl
        obtain ⟨l1, l2⟩ := aLoad_sound (P := P) R hv
        refine ⟨?_, fun u hu => ?_⟩
        · have hl1 : (do loadVar ty (← asAddr (a.tmps.getD d undef)) : Sem Value).run P w = .ok (ren φ κ v) w := by
            rw [hget]
            unfold aLoad at hv
            split at hv
            · rename_i k o hx
              rw [hx] at l1 ⊢
              exact l1
            · cases hv
          rw [F2]
          simp only [Sem.run_bind] at hl1 ⊢
          rw [hl1]
          simp only [Result.andThen_ok, i1, Sem.run_pure, List.map_cons]
        · rcases List.mem_cons.1 hu with hu | hu
          · exact hu ▸ l2
          · exact i2 u hu
      · cases e

theorem results_sound {fn : Func} (A : ARel φ κ h.N nt t ds a) (R : Rel w0 φ κ h w) {l : List Value} (e : aRes P t h fn.results.toList = some l) : (results fn a.tmps).run P w = .ok (ren φ κ (packV l)) w ∧ okV h.N κ (packV l) := by
  constructor
  · unfold results
    rw [Array.mapM_eq_mapM_toList]
    simp only [Sem.run_bind, Sem.run_map]
    rw [(mapM_res (P := P) A R _ (fun _ => rfl) (fun _ _ => rfl) _ _ e).1]
    simp only [Result.andThen_ok]
    match l with
    | [] => rfl
    | [v] => rfl
    | v :: u :: r =>
      simp only [packV, ren, renA, renL_map]
      rfl
  · have h2 := (mapM_res (P := P) A R (fun r => match r with | .tmp t => pure (a.tmps.getD t undef) | .cell d ty => do loadVar ty (← asAddr (a.tmps.getD d undef))) (fun _ => rfl) (fun _ _ => rfl) _ _ e).2
    match l with
    | [] => simp [packV, okV, okA, okL]
    | [v] => exact h2 v (by simp)
    | v :: u :: r =>
      simp only [packV, okV, okA, okL_iff]
      exact h2

theorem aMarks_grow : ∀ (ms : List Nat) (h h' : AH), aMarks ms h = some h' → Grow h h' := by
  intro ms
  induction ms with
  | nil => intro h h' e; simp only [aMarks, Option.some.injEq] at e; subst e; exact Grow.refl _
  | cons m r ih =>
    intro h h' e
    simp only [aMarks] at e
    split at e
    · split at e
      · rename_i hm
        exact (grow_put hm _).trans (ih _ _ e)
      · cases e
    · cases e

theorem aMarks_sound {fn : Func} {tmps : Array Value} {Rr : Ending → World → Prop} : ∀ (ms : List Nat) (h h' : AH), aMarks ms h = some h' → ∀ w0 φ κ w, Rel w0 φ κ h w → MsOK h.N ms →
    (∀ w', Step w0 φ κ h φ κ h' w' → ∃ v, (results fn tmps).run P w' = .ok v w' ∧ Rr (.returned v) w') → LeavesInM Fence.wide 0 P fn tmps Rr (ms.map (markD φ)) .returning w := by
  intro ms
  induction ms with
  | nil =>
    intro h h' e w0 φ κ w R M hq
    simp only [aMarks, Option.some.injEq] at e
    subst e
    exact hq w R.step
  | cons m r ih =>
    intro h h' e w0 φ κ w R M hq
    simp only [aMarks] at e
    split at e
    · rename_i g
      split at e
      · rename_i hm
        obtain ⟨g1, g2⟩ := R.ent m _ g
        have S := R.write (o' := .deferred false) (ob := .deferred none) g hm ⟨g1, Array.getElem?_setIfInBounds_self_of_lt (Array.getElem?_eq_some_iff.1 g2).1⟩
        refine ⟨by simp, .inl ⟨(φ m).1, _, rfl, ?_, ih _ _ e w0 φ κ _ S.rel (fun x hx => by rw [put_N]; exact M x (by simp [hx])) fun w' S' => hq w' (S.trans S')⟩⟩
        unfold Instr.takeDeferred
        rw [Sem.run_bind, run_getObj g2 (by simp)]
        simp only [Result.andThen_ok, if_true, Sem.run_bind]
        rw [run_setObj g2 (by simp)]
        rfl
      · cases e
    · cases e

theorem aPuts_sound {N : Nat → Prop} : ∀ (l : List (Tmp × Value)) (t t' : Tr Value) (a : Act), aPuts nt l t = some t' → ARel φ κ N nt t ds a → (∀ p ∈ l, okV N κ p.2) →
    ARel φ κ N nt t' ds { a with tmps := (l.map fun p => (p.1, ren φ κ p.2)).foldl (fun tmps (p : Tmp × Value) => tmps.setIfInBounds p.1 p.2) a.tmps } := by
  intro l
  induction l with
  | nil => intro t t' a e A _; simp only [aPuts, Option.some.injEq] at e; subst e; exact A
  | cons p r ih =>
    intro t t' a e A ho
    obtain ⟨d, v⟩ := p
    simp only [aPuts] at e
    split at e
    · rename_i t1 h1
      exact ih _ _ _ e (A.put h1 (ho (d, v) (by simp))) (fun q hq => ho q (by simp [hq]))
    · cases e

theorem aYld_grow (C : CallOk P call) (nm : namesOk P = true) {fu k : Nat} {args : List Value} {v : Value} (hw : h.wlim ≤ h.next) (e : aYld P call fu k args h = some (v, h')) : Grow h h' := by
  unfold aYld at e
  split at e
  · split at e
    · rename_i hc
      split at e
      · split at e
        · rename_i t1 ms1 h1 hx
          have g1 := aCode_grow C nm _ _ _ _ _ _ _ _ _ hw hx
          split at e
          · split at e
            · have hk : h1.wlim ≤ k := by rw [g1.wlim]; exact hc.2
              have g2 := grow_put hk (some (.loop { (‹ALoop› : ALoop) with state := .busy, pending := (‹ALoop› : ALoop).pending }))
              split at e
              · rename_i ex t2 ms2 h2 hy
                have g3 := aCode_grow C nm _ _ _ _ _ _ _ _ _ (by rw [put_wlim, put_next]; exact g1.wl hw) hy
                split at e
                · simp only [Option.some.injEq, Prod.mk.injEq] at e
                  obtain ⟨_, rfl⟩ := e
                  refine g1.trans ((grow_put hk _).trans (g3.trans (grow_put ?_ _)))
                  rw [g3.wlim, put_wlim]
                  exact hk
                · cases e
              · cases e
            · cases e
          · cases e
        · cases e
      · cases e
    · cases e
  · cases e

theorem aFun_spec {fu f : Nat} {args : List Value} {v : Value} (e : aFun P call fu f args h = some (v, h')) :
    ∃ fn c ex t ms h1 l, P.funcs[f]? = some fn ∧ fn.body = some c ∧ args.length ≤ fn.ntmps ∧ aCode P call fn.ntmps none fu c (argTr 0 args .leaf) [] h = some (ex, t, ms, h1) ∧ (ex = .normal ∨ ex = .ret) ∧ aMarks ms h1 = some h' ∧ aRes P t h' fn.results.toList = some l ∧ v = packV l := by
  unfold aFun at e
  split at e
  · rename_i fn hf
    split at e
    · rename_i c hc
      split at e
      · rename_i hl
        split at e
        · cases e
        · rename_i ex t ms h1 hne hcode
          split at e
          · rename_i h2 hms
            split at e
            · rename_i l hres
              simp only [Option.some.injEq, Prod.mk.injEq] at e
              obtain ⟨rfl, rfl⟩ := e
              refine ⟨fn, c, ex, t, ms, h1, l, hf, hc, hl, hcode, ?_, hms, hres, rfl⟩
              cases ex with
              | normal => exact .inl rfl
              | ret => exact .inr rfl
              | exit id => exact absurd rfl (hne id)
            · cases e
          · cases e
        · cases e
      · cases e
    · cases e
  · cases e

theorem aFun_grow (C : CallOk P call) (nm : namesOk P = true) {fu f : Nat} {args : List Value} {v : Value} (hw : h.wlim ≤ h.next) (e : aFun P call fu f args h = some (v, h')) : Grow h h' := by
  obtain ⟨fn, c, ex, t, ms, h1, l, _, _, _, h5, _, h7, _, _⟩ := aFun_spec e
  exact (aCode_grow C nm _ _ _ _ _ _ _ _ _ hw h5).trans (aMarks_grow _ _ _ h7)

theorem aFun_sound (hm : P.follows .mixedOrders = true) (nm : namesOk P = true) (C : CallOk P call) {fu f : Nat} {args : List Value} {v : Value} (e : aFun P call fu f args h = some (v, h')) (R : Rel w0 φ κ h w) (ha : ∀ x ∈ args, okV h.N κ x) :
    Calls P f (args.map (ren φ κ)).toArray w fun e w' => ∃ φ' κ', e = .returned (ren φ' κ' v) ∧ Step w0 φ κ h φ' κ' h' w' ∧ okV h'.N κ' v := by
  obtain ⟨fn, c, ex, t, ms, h1, l, q1, q2, q3, q4, q5, q6, q7, rfl⟩ := aFun_spec e
  refine callsIn_wide.1 (callsIn_of_wp_marks (F := Fence.wide) (n := 0) q1 q2 trivial ?_ rfl)
  refine aCode_sound (rd := none) hm nm C c _ _ _ _ _ _ _ _ q4 _ none w0 φ κ w _ R trivial (fun m hm => by cases hm) ⟨rfl, ?_, fun d hd => ?_, fun d => ?_, fun d hd => ?_⟩ fun φ' κ' w' a' S M A => ?_
  · simp
    omega
  · rw [argTr_get]
    by_cases hlt : d < args.length
    · rw [if_pos ⟨Nat.zero_le _, by omega⟩, Nat.sub_zero, Array.getElem?_append_left (by simpa using hlt)]
      simp [List.getElem?_eq_getElem hlt]
    · rw [if_neg (by omega), Array.getElem?_append_right (by simp; omega)]
      simp only [Tr.get_leaf, Option.getD_none, ren_undef]
      rw [Array.getElem?_replicate, if_pos (by simp; omega)]
  · rw [argTr_get]
    split
    · rename_i hlt
      rw [Nat.sub_zero, List.getElem?_eq_getElem (by omega)]
      exact ha _ (List.getElem_mem _)
    · exact ok_undef
  · rw [argTr_get, if_neg (by omega)]
    rfl
  · have hfin : LeavesInM Fence.wide 0 P fn a'.tmps (fun e w' => ∃ φ' κ', e = .returned (ren φ' κ' (packV l)) ∧ Step w0 φ κ h φ' κ' h' w' ∧ okV h'.N κ' (packV l)) a'.defers .returning w' := by
      rw [A.defers]
      refine aMarks_sound ms h1 h' q6 w0 φ' κ' w' S.rel M fun w2 S2 => ?_
      obtain ⟨r1, r2⟩ := results_sound (P := P) (fn := fn) (A.step S2) S2.rel q7
      exact ⟨_, r1, φ', κ', rfl, S.trans S2, r2⟩
    rcases q5 with rfl | rfl
    · exact hfin
    · exact hfin

theorem aYld_sound (hm : P.follows .mixedOrders = true) (nm : namesOk P = true) (C : CallOk P call) {fu k : Nat} {args : List Value} {v : Value} (e : aYld P call fu k args h = some (v, h')) (R : Rel w0 φ κ h w) (ha : ∀ x ∈ args, okV h.N κ x) :
    ∃ f tmps assign body, (Instr.yield (φ k).1 (args.map (ren φ κ)).toArray).run P w = .ok (.round (φ k).1 f tmps assign body) w ∧
      RoundIn Fence.wide 0 P (φ k).1 f tmps assign body w fun e w' => ∃ φ' κ', e = .returned (ren φ' κ' v) ∧ Step w0 φ κ h φ' κ' h' w' ∧ okV h'.N κ' v := by
  unfold aYld at e
  split at e
  · rename_i r g
    split at e
    · rename_i hc
      split at e
      · rename_i t0 hput
        split at e
        · rename_i t1 ms1 h1 hx
          split at e
          · rename_i r1 g1
            split at e
            · rename_i hst
              split at e
              · rename_i ex t2 ms2 h2 hy
                split at e
                · rename_i r2 g2
                  simp only [Option.some.injEq, Prod.mk.injEq] at e
                  obtain ⟨rfl, rfl⟩ := e
                  obtain ⟨p1, Lr, p2, p3⟩ := R.ent k _ g
                  have hNk : h.N k := get_sees g
                  refine ⟨Lr.fn, (Lr.params.zip (args.map (ren φ κ)).toArray).foldl (fun tmps (t, a) => tmps.setIfInBounds t a) Lr.tmps, Lr.assign, Lr.body, ?_, ?_⟩
                  · unfold Instr.yield
                    rw [Sem.run_bind, run_getLoop p2]
                    simp only [Result.andThen_ok]
                    rw [if_neg (by rw [p3.params]; simp [hc.1])]
                    rfl
                  · have A0 : ARel φ κ h.N r.nt r.t [] { tmps := Lr.tmps, defers := [] } := ⟨rfl, p3.size, p3.get, p3.ok, p3.out⟩
                    have A1 := aPuts_sound _ _ _ _ hput A0 (fun p hp => ha _ (List.of_mem_zip hp).2)
                    have htm : ((r.params.toList.zip args).map fun p => (p.1, ren φ κ p.2)).foldl (fun tmps (p : Tmp × Value) => tmps.setIfInBounds p.1 p.2) Lr.tmps = (Lr.params.zip (args.map (ren φ κ)).toArray).foldl (fun tmps (t, a) => tmps.setIfInBounds t a) Lr.tmps := by
                      rw [← Array.foldl_toList, Array.toList_zip, p3.params, List.zip_map_right]
                      congr 1
                    rw [htm] at A1
                    refine roundIn_of_wpIn trivial ?_
                    rw [p3.assign]
                    refine aCode_sound (rd := some k) hm nm C r.assign _ _ _ _ _ _ _ _ hx _ (some (φ k).1) w0 φ κ w _ R ⟨hNk, rfl⟩ (fun m hm => by cases hm) A1 fun φ1 κ1 w1 a1 S1 M1 A2 => ?_
                    have hk1 : h1.wlim ≤ k := by rw [S1.wlim]; exact hc.2
                    obtain ⟨L1, u1, u2, u3⟩ := S1.rel.writeLoop g1 hk1 .busy r1.pending
                    have hphi1 : (φ1 k).1 = (φ k).1 := by rw [(S1.agree hNk).1]
                    have hrec1 : ({ L1 with state := .busy } : Loop) = { L1 with state := .busy, pending := r1.pending } := by rw [← u2.pending]
                    refine ⟨{ w1 with heap := w1.heap.setIfInBounds (φ1 k).1 (.loop { L1 with state := .busy, pending := r1.pending }) }, ?_, ?_⟩
                    · unfold Instr.beginRound
                      rw [hphi1] at u1 ⊢
                      rw [Sem.run_bind, run_getLoop u1]
                      simp only [Result.andThen_ok, Sem.run_bind]
                      rw [run_setObj u1 (by simp), hrec1]
                      simp only [Result.andThen_ok, u2.state, hst]
                      rfl
                    · rw [p3.body]
                      obtain ⟨M2, m2⟩ := MsOK.step M1 u3
                      refine aCode_sound (rd := some k) hm nm C r.body _ _ _ _ _ _ _ _ hy _ (some (φ k).1) w0 φ1 κ1 _ a1 u3.rel ⟨by rw [put_N]; exact S1.sees hNk, hphi1⟩ M2 ((A2.step u3).ds m2.symm) fun φ3 κ3 w3 a3 S3 M3 A3 => ?_
                      have S13 := (S1.trans u3).trans S3
                      have hk2 : h2.wlim ≤ k := by rw [S13.wlim]; exact hc.2
                      have hphi3 : (φ3 k).1 = (φ k).1 := by rw [(S13.agree hNk).1]
                      have fin : ∀ (st : LoopState) (pd : Option Code) (b : Bool), (if pd.isNone then LoopState.ready else LoopState.done) = st → pd.isNone = b → ∃ v w', (Instr.endRound (φ k).1 pd).run P w3 = .ok v w' ∧ (∃ φ' κ', Ending.returned v = .returned (ren φ' κ' (.bool b)) ∧ Step w0 φ κ h φ' κ' (h2.put k (some (.loop { r2 with state := st, pending := pd }))) w' ∧ okV (h2.put k (some (.loop { r2 with state := st, pending := pd }))).N κ' (.bool b)) := by
                        intro st pd b h1' h2'
                        obtain ⟨L3, x1, x2, x3⟩ := S13.rel.writeLoop g2 hk2 st pd
                        refine ⟨_, _, ?_, φ3, κ3, rfl, S13.trans x3, by simp [okV]⟩
                        unfold Instr.endRound
                        rw [hphi3] at x1 ⊢
                        rw [Sem.run_bind, run_getLoop x1]
                        simp only [Result.andThen_ok, Sem.run_bind]
                        rw [run_setObj x1 (by simp), h1', h2']
                        rfl
                      cases ex with
                      | normal => exact fin .ready none true rfl rfl
                      | ret => exact fin .done (some .ret) false rfl rfl
                      | exit id => exact fin .done (some (.exit id)) false rfl rfl
                · cases e
              · cases e
            · cases e
          · cases e
        · cases e
      · cases e
    · cases e
  · cases e

/- contracts that are given to the machine -/
structure HookOk (P : Program) (hook : Hook) : Prop where
  grow : ∀ f args h v h', h.wlim ≤ h.next → hookFn hook f args h = some (v, h') → Grow h h'
  body : ∀ f args h v h', hookFn hook f args h = some (v, h') → ∃ fn c, P.funcs[f]? = some fn ∧ fn.body = some c
  run : ∀ f args h v h', hookFn hook f args h = some (v, h') → ∀ w0 φ κ w, Rel w0 φ κ h w → (∀ x ∈ args, okV h.N κ x) →
    Calls P f (args.map (ren φ κ)).toArray w fun e w' => ∃ φ' κ', e = .returned (ren φ' κ' v) ∧ Step w0 φ κ h φ' κ' h' w' ∧ okV h'.N κ' v

theorem aRun_ok (hm : P.follows .mixedOrders = true) (nm : namesOk P = true) {hook : Hook} (hk : HookOk P hook) (fu : Nat) : ∀ n, CallOk P (aRun P hook fu n) := by
  intro n
  induction n with
  | zero => exact ⟨fun f args h v h' _ e => by simp [aRun] at e, fun f args h v h' e => by simp [aRun] at e, fun f args h v h' e => by simp [aRun] at e, fun f args h v h' _ e => by simp [aRun] at e, fun f args h v h' e => by simp [aRun] at e⟩
  | succ n ih =>
    have part : ∀ f args h v h', (aRun P hook fu (n + 1)).fn f args h = some (v, h') → hookFn hook f args h = some (v, h') ∨ aFun P (aRun P hook fu n) fu f args h = some (v, h') := by
      intro f args h v h' e
      simp only [aRun] at e
      split at e
      · rename_i g hg
        left
        unfold hookFn
        rw [hg]
        exact e
      · exact .inr e
    refine ⟨fun f args h v h' hw e => ?_, fun f args h v h' e => ?_, fun f args h v h' e w0 φ κ w R ha => ?_, fun k args h v h' hw e => ?_, fun k args h v h' e w0 φ κ w R ha => ?_⟩
    · rcases part f args h v h' e with e | e
      · exact hk.grow _ _ _ _ _ hw e
      · exact aFun_grow ih nm hw e
    · rcases part f args h v h' e with e | e
      · exact hk.body _ _ _ _ _ e
      · obtain ⟨fn, c, ex, t, ms, h1, l, q1, q2, _⟩ := aFun_spec e
        exact ⟨fn, c, q1, q2⟩
    · rcases part f args h v h' e with e | e
      · exact hk.run _ _ _ _ _ e w0 φ κ w R ha
      · exact aFun_sound hm nm ih e R ha
    · exact aYld_grow ih nm hw e
    · exact aYld_sound hm nm ih e R ha

theorem noHook_ok : HookOk P noHook := ⟨fun f args h v h' _ e => by simp [hookFn, noHook] at e, fun f args h v h' e => by simp [hookFn, noHook] at e, fun f args h v h' e => by simp [hookFn, noHook] at e⟩

def h00 : AH := ⟨.leaf, 0, 0, []⟩
theorem rel00 (w : World) : Rel w (fun _ => (0, 0)) (fun _ => 0) h00 w :=
  ⟨Below.refl _ _, fun p hp => (by cases hp), Nat.le_refl _, fun k o g => (by have := get_tr g; cases this), fun k o g => (by have := get_tr g; cases this), fun k k' o o' g => (by have := get_tr g; cases this)⟩

/- what a run of the machine proves of a call -/
theorem calls_closed {call : CallF} (C : CallOk P call) {f : Nat} {args : List Value} {v : Value} {h' : AH} (e : call.fn f args h00 = some (v, h')) (ha : noAddrs args = true) (hv : noAddr v = true) (w : World) :
    Calls P f args.toArray w fun e w' => e = .returned v ∧ Below w.heap.size w w' := by
  have hmem : ∀ (l : List Value), noAddrs l = true → ∀ x ∈ l, noAddr x = true := by
    intro l
    induction l with
    | nil => intro _ x hx; cases hx
    | cons y r ih =>
      intro h x hx
      simp only [noAddrs, Bool.and_eq_true] at h
      rcases List.mem_cons.1 hx with hx | hx
      · exact hx ▸ h.1
      · exact ih h.2 x hx
  have := C.run _ _ _ _ _ e w _ _ w (rel00 w) (fun x hx => ok_noAddr _ _ _ (hmem args ha x hx))
  rw [noAddrs_ren _ ha] at this
  refine this.mono ?_
  rintro en w' ⟨φ', κ', rfl, S, _⟩
  exact ⟨by rw [ren_noAddr _ _ _ hv], S.rel.below⟩

def isTrue : Option (Value × AH) → Bool
  | some (.bool b, _) => b
  | _ => false
theorem calls_true (hm : P.follows .mixedOrders = true) (nm : namesOk P = true) {hook : Hook} (hk : HookOk P hook) {fu n f : Nat} (e : isTrue ((aRun P hook fu n).fn f [] h00) = true) (w : World) :
    Calls P f #[] w fun e w' => e = .returned (.bool true) ∧ Below w.heap.size w w' := by
  unfold isTrue at e
  split at e
  · rename_i b h' he
    subst e
    exact calls_closed (aRun_ok hm nm hk fu n) he rfl rfl w
  · cases e
end
end Go.Ev
