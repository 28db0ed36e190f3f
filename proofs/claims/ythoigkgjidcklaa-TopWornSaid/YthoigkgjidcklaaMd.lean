/-
  Walks on memory by names: the machine (Md).
-/
import Derived.Test.YthoigkgjidcklaaMc
set_option linter.unusedSimpArgs false
set_option linter.unusedVariables false
/- VnA: Walks on memory by names, first part: code written out, and its rules. -/
namespace Go.Vm
open Go Go.RowKit

inductive IC where
  | skip
  | reg (ops : List IOp) (live : Option (List Nat))
  | draw (ops : List (IOp × Bool × Nat × Nat)) (live : Option (List Nat))
  | seq (a b : IC)
  | cond (x : X) (a b : IC)
  | block (id : Nat) (a : IC)
  | loop (a : IC)
  | exit (id : Nat)
  | ret
  | rf (f : X) (ps : List Nat) (a b : IC) (live : Option (List Nat))
  | bad

/- what the code itself says of it -/
inductive EC where
  | skip
  | reg (ops : List (Option Nat × Option (Nat × Bool) × I))
  | draw (ops : List ((Option Nat × Option (Nat × Bool) × I) × Bool × Nat × Nat))
  | seq (a b : EC)
  | cond (x : X) (a b : EC)
  | block (id : Nat) (a : EC)
  | loop (a : EC)
  | exit (id : Nat)
  | ret
  | rf (f : X) (ps : List Nat) (a b : EC)
  | bad
def IC.er : IC → EC
  | .skip => .skip
  | .reg ops _ => .reg (ops.map IOp.er)
  | .draw ops _ => .draw (ops.map IOp.erd)
  | .seq a b => .seq a.er b.er
  | .cond x a b => .cond x a.er b.er
  | .block id a => .block id a.er
  | .loop a => .loop a.er
  | .exit id => .exit id
  | .ret => .ret
  | .rf f ps a b _ => .rf f ps a.er b.er
  | .bad => .bad
def rC (P : Program) (nt : Nat) : Code → Option EC
  | .skip => some .skip
  | .region _ ops false => (rRs P nt ops ops.toList).map .reg
  | .region _ ops true => if slotsOk ops (masks [] ops.toList) then (rDs P nt ops (masks [] ops.toList) 0 ops.toList).map .draw else none
  | .seq x y => match rC P nt x, rC P nt y with
    | some a, some b => some (.seq a b)
    | _, _ => none
  | .cond c x y => match rX c, rC P nt x, rC P nt y with
    | some c, some a, some b => some (.cond c a b)
    | some c, none, some b => some (.cond c .bad b)
    | some c, some a, none => some (.cond c a .bad)
    | _, _, _ => none
  | .block id c => (rC P nt c).map (.block id)
  | .loop c => (rC P nt c).map .loop
  | .exit id => some (.exit id)
  | .ret => some .ret
  | .rangeFunc f ps x y => match rX f, rC P nt x, rC P nt y with
    | some f, some a, some b => some (.rf f ps.toList a b)
    | _, _, _ => none
  | _ => none

/-- What a program must be for all this. -/
structure POk (P : Program) : Prop where
  mixed : P.follows .mixedOrders = true
  names : namesOk P = true

/-- What a piece of code, written out, leaves. -/
def ITri (P : Program) (nt : Nat) (rd : Option Nat) (b : Nat) (ic : IC) (l : Fr) (ms : List Nat) (h : AH) (Q : AEx → Fr → List Nat → AH → Prop) : Prop :=
  ∀ c, rC P nt c = some ic.er ∨ ic.er = .bad → Tri P nt rd b c (trOf l) ms h fun e t' ms' h' => ∃ l', t' = trOf l' ∧ Q e l' ms' h'

/-- What is to hold behind the first of two pieces, behind a piece in a block, behind a round. -/
def SeqQ (P : Program) (nt : Nat) (rd : Option Nat) (b : Nat) (y : IC) (Q : AEx → Fr → List Nat → AH → Prop) (e : AEx) (l : Fr) (ms : List Nat) (h : AH) : Prop :=
  match e with
  | .normal => ITri P nt rd b y l ms h Q
  | e => Q e l ms h
def BlkQ (id : Nat) (Q : AEx → Fr → List Nat → AH → Prop) (e : AEx) (l : Fr) (ms : List Nat) (h : AH) : Prop :=
  match e with
  | .exit j => if j = id then Q .normal l ms h else Q (.exit j) l ms h
  | e => Q e l ms h
def LoopQ {ι : Type} (nt b : Nat) (rd : Option Nat) (S : ι → Fr) (M : ι → List Nat) (H : ι → AH) (J : ι → Prop) (μ : ι → Nat) (i : ι) (Q : AEx → Fr → List Nat → AH → Prop) (e : AEx) (l : Fr) (ms : List Nat) (h : AH) : Prop :=
  match e with
  | .normal => ∃ j, J j ∧ μ j < μ i ∧ Wk nt b rd (trOf l) ms h (trOf (S j)) (M j) (H j)
  | e => Q e l ms h

/-- Only these slots. -/
def keepF : List Nat → Fr → Fr
  | [], _ => []
  | d :: ds, l => match lk l d with
    | some v => (d, v) :: keepF ds l
    | none => keepF ds l
def liveF : Option (List Nat) → Fr → Fr
  | some ds, l => keepF ds l
  | none, l => l

section
variable {P : Program} {nt b : Nat} {rd : Option Nat} {l l' : Fr} {ms ms' : List Nat} {h h' : AH} {Q Q' : AEx → Fr → List Nat → AH → Prop}

theorem Tri.range {t : Tr Value} {Q : AEx → Tr Value → List Nat → AH → Prop} (nm : namesOk P = true) {f : Operand} {ps : Array Tmp} {x y : Code} {g : Nat} {first captured : Array Value} {dn : Nat} {m1 : List Nat} {h1 h2 : AH} {v : Value} {r : ALoop} {e1 : AEx}
    (hf : aEnv t f = some (.func (.func g) first captured)) (hen : aEnter rd ms h = some (dn, m1, h1))
    (F : Fc P g (first.toList ++ [.func (.yield h1.next) #[] #[]] ++ captured.toList) (h1.new (.loop ⟨.ready, none, t, nt, ps, x, y, dn⟩)) v h2)
    (hg : h2.get h1.next = some (.loop r)) (hbusy : r.state ≠ .busy) (hj : jumpEx r.pending = some e1)
    (q : Q e1 t m1 (h2.put h1.next (some (.loop { r with state := .exhausted })))) : Tri P nt rd b (.rangeFunc f ps x y) t ms h Q := by
  intro K rc w0 φ κ w a B R D M A hk
  obtain ⟨f1, f2⟩ := A.env f _ hf
  refine wpIn_rangeFunc fun fn _ => ?_
  obtain ⟨φ1, κ1, w1, mark, q1, S1, M1, q2, q3⟩ := enter_sound (P := P) fn ps x y R D M A hen
  obtain ⟨fn', body', hfn, hbody⟩ := F.body
  have hfr : ren φ1 κ1 (.func (.func g) first captured) = a.eval f := by rw [S1.ren f2, f1]
  have hargs : ((first.toList ++ [Value.func (.yield h1.next) #[] #[]] ++ captured.toList).map (ren φ1 κ1)).toArray = renA φ1 κ1 first ++ #[Value.func (.yield (φ1 h1.next).1) #[] #[]] ++ renA φ1 κ1 captured := by
    rw [renA_map, renA_map]
    apply Array.ext'
    simp [ren, renF, renA, renL]
  refine ⟨_, _, _, { target := .fn (.func g) (renA φ1 κ1 captured), args := renA φ1 κ1 first ++ #[Value.func (.yield (φ1 h1.next).1) #[] #[]] }, w1, g, renA φ1 κ1 first ++ #[Value.func (.yield (φ1 h1.next).1) #[] #[]] ++ renA φ1 κ1 captured, w1, q1, ?_, fun f' _ => fen_fn rc f', ?_, fun hd => (by rw [fen_depth] at hd; cases hd), ?_⟩
  · unfold resolve rangeCall
    have hfr' : a.eval f = .func (.func g) (renA φ1 κ1 first) (renA φ1 κ1 captured) := by rw [← hfr]; simp only [ren, renF]
    have hmap : (#[Operand.const (.func (.yield (φ1 h1.next).1) #[] #[])] : Array Operand).map a.eval = #[Value.func (.yield (φ1 h1.next).1) #[] #[]] := by simp [Act.eval]
    simp only [hfr', Deferred.ofValue]
    rw [hmap]
    rfl
  · simp only [invoke]
    exact callFunc_run nm hfn hbody _ _
  · rw [← hargs]
    have hok : ∀ v ∈ first.toList ++ [Value.func (.yield h1.next) #[] #[]] ++ captured.toList, okV (h1.new (.loop ⟨.ready, none, t, nt, ps, x, y, dn⟩)).N κ1 v := by
      intro v hv
      have f3 := S1.ok f2
      simp only [okV] at f3
      rcases List.mem_append.1 hv with hv | hv
      · rcases List.mem_append.1 hv with hv | hv
        · exact okA_iff.1 f3.2.1 v hv
        · rw [List.mem_singleton] at hv
          subst hv
          simp only [okV, okF, okA, okL, and_true]
          exact q3
      · exact okA_iff.1 f3.2.2 v hv
    refine calls_fen _ rc ((F.run w0 φ1 κ1 w1 S1.rel hok).mono ?_)
    rintro en w3 ⟨φ3, κ3, rfl, S3, _⟩
    have hl1 : h.wlim ≤ h1.next := by
      have := aEnter_grow R.wl hen
      exact Nat.le_trans R.wl this.next
    have hw2 : h2.wlim ≤ h1.next := by rw [S3.wlim, S1.wlim]; exact hl1
    obtain ⟨Lr, l1, l2, l3⟩ := S3.rel.writeLoop hg hw2 .exhausted r.pending
    have hphi : (φ3 h1.next).1 = (φ1 h1.next).1 := by rw [(S3.agree q3).1]
    have S13 := (S1.trans S3).trans l3
    obtain ⟨M3, m3⟩ := MsOK.step M1 (S3.trans l3)
    refine ⟨r.pending, { w3 with heap := w3.heap.setIfInBounds (φ3 h1.next).1 (.loop { Lr with state := .exhausted, pending := r.pending }) }, ?_, ?_⟩
    · unfold Instr.endLoop
      rw [hphi] at l1
      rw [Sem.run_bind, run_getLoop l1]
      simp only [Result.andThen_ok]
      have hb : (Lr.state == LoopState.busy) = false := by
        rw [l2.state]
        simpa using hbusy
      simp only [hb, Bool.false_eq_true, if_false, Sem.run_bind]
      rw [run_setObj l1 (by simp), hphi]
      simp only [Result.andThen_ok, Sem.run_pure, l2.pending]
    · have A3 : ARel φ3 κ3 (h2.put h1.next (some (.loop { r with state := .exhausted, pending := r.pending }))).N nt t (m1.map (markD φ3)) { a with defers := mark ++ a.defers } := by
        have A0 := A.step S13
        exact ⟨by rw [m3, ← q2], A0.size, A0.get, A0.ok⟩
      have hQ := hk e1 t m1 _ φ3 κ3 _ { a with defers := mark ++ a.defers } q (Stb.of S13 B) (D.step S13) M3 A3
      cases hp : r.pending with
      | none =>
        rw [hp] at hj
        simp only [jumpEx, Option.some.injEq] at hj
        subst hj
        rw [hp] at hQ
        exact hQ
      | some c =>
        rw [hp] at hj
        rw [hp] at hQ
        cases c <;> simp only [jumpEx, Option.some.injEq] at hj <;> first
          | (cases hj; done)
          | (subst hj; exact wpIn_ret hQ)
          | (subst hj; exact wpIn_exit hQ)

theorem keepF_get (ds : List Nat) (l : Fr) (d : Nat) (v : Value) (e : lk (keepF ds l) d = some v) : lk l d = some v := by
  induction ds with
  | nil => cases e
  | cons x ds ih =>
    simp only [keepF] at e
    split at e
    · rename_i u hu
      simp only [lk] at e
      by_cases hx : x = d
      · rw [if_pos hx] at e; subst hx; rw [hu]; exact e
      · rw [if_neg hx] at e; exact ih e
    · exact ih e
theorem liveF_get (ds : Option (List Nat)) (l : Fr) (d : Nat) (v : Value) (e : lk (liveF ds l) d = some v) : lk l d = some v := by
  cases ds with
  | none => exact e
  | some ds => exact keepF_get ds l d v e

/-- Slots forgotten. -/
theorem Wk.drop {t t' : Tr Value} (hd : ∀ d v, t'.get d = some v → t.get d = some v) : Wk nt b rd t ms h t' ms h :=
  fun _ _ _ _ _ _ B R D M A => ⟨_, _, R.stb B, D, M, ⟨A.defers, A.size, fun d v e => A.get d v (hd d v e), fun d v e => A.ok d v (hd d v e)⟩⟩

theorem ITri.mono {ic : IC} (T : ITri P nt rd b ic l ms h Q) (hq : ∀ e l' ms' h', Q e l' ms' h' → Q' e l' ms' h') : ITri P nt rd b ic l ms h Q' :=
  fun c hc => (T c hc).mono fun e t' ms' h' ⟨l', e1, e2⟩ => ⟨l', e1, hq _ _ _ _ e2⟩

theorem ITri.weak {ic : IC} (W : Wk nt b rd (trOf l) ms h (trOf l') ms' h') (T : ITri P nt rd b ic l' ms' h' Q) : ITri P nt rd b ic l ms h Q :=
  fun c hc => Tri.weak W (T c hc)

theorem ITri.drop {ic : IC} (hd : ∀ d v, lk l' d = some v → lk l d = some v) (T : ITri P nt rd b ic l' ms h Q) : ITri P nt rd b ic l ms h Q :=
  T.weak (Wk.drop fun d v e => by rw [trOf_get] at *; exact hd d v e)

theorem ITri.skip (q : Q .normal l ms h) : ITri P nt rd b .skip l ms h Q := by
  intro c hc
  replace hc := hc.resolve_right (by intro e; cases e)
  cases c with
  | skip => exact Tri.skip ⟨l, rfl, q⟩
  | region id ops d => cases d <;> simp [rC, IC.er] at hc
  | seq x y => simp only [rC, IC.er] at hc; split at hc <;> cases hc
  | cond x y z => simp only [rC, IC.er] at hc; split at hc <;> cases hc
  | rangeFunc f ps x y => simp only [rC, IC.er] at hc; split at hc <;> cases hc
  | _ => simp [rC, IC.er] at hc
theorem ITri.exit {id : Nat} (q : Q (.exit id) l ms h) : ITri P nt rd b (.exit id) l ms h Q := by
  intro c hc
  replace hc := hc.resolve_right (by intro e; cases e)
  cases c with
  | exit j => simp only [rC, IC.er, Option.some.injEq, EC.exit.injEq] at hc; subst hc; exact Tri.exit ⟨l, rfl, q⟩
  | region id ops d => cases d <;> simp [rC, IC.er] at hc
  | seq x y => simp only [rC, IC.er] at hc; split at hc <;> cases hc
  | cond x y z => simp only [rC, IC.er] at hc; split at hc <;> cases hc
  | rangeFunc f ps x y => simp only [rC, IC.er] at hc; split at hc <;> cases hc
  | _ => simp [rC, IC.er] at hc
theorem ITri.ret (q : Q .ret l ms h) : ITri P nt rd b .ret l ms h Q := by
  intro c hc
  replace hc := hc.resolve_right (by intro e; cases e)
  cases c with
  | ret => exact Tri.ret ⟨l, rfl, q⟩
  | region id ops d => cases d <;> simp [rC, IC.er] at hc
  | seq x y => simp only [rC, IC.er] at hc; split at hc <;> cases hc
  | cond x y z => simp only [rC, IC.er] at hc; split at hc <;> cases hc
  | rangeFunc f ps x y => simp only [rC, IC.er] at hc; split at hc <;> cases hc
  | _ => simp [rC, IC.er] at hc

theorem ITri.reg {ops : List IOp} {live : Option (List Nat)} (ok : POk P) (T : iRow P ops l h fun l' h' => Q .normal (liveF live l') ms h') : ITri P nt rd b (.reg ops live) l ms h Q := by
  intro c hc
  replace hc := hc.resolve_right (by intro e; cases e)
  cases c with
  | region id os d =>
    cases d with
    | true => simp only [rC, IC.er] at hc; split at hc <;> simp at hc
    | false =>
      simp only [rC, IC.er, Option.map_eq_some_iff, EC.reg.injEq] at hc
      obtain ⟨x, hx, rfl⟩ := hc
      obtain ⟨l', h', e1, e2⟩ := iRow_sound _ _ _ _ _ hx T
      have : Tri P nt rd b (.region id os false) (trOf l) ms h fun e t' ms' h'' => e = .normal ∧ t' = trOf l' ∧ ms' = ms ∧ h'' = h' := Tri.row ok.names e1 ⟨rfl, rfl, rfl, rfl⟩
      intro K rc w0 φ κ w a B R D M A hk
      refine this K rc w0 φ κ w a B R D M A fun e t' ms' h'' φ' κ' w' a' q S D' M' A' => ?_
      obtain ⟨rfl, rfl, rfl, rfl⟩ := q
      exact hk .normal (trOf (liveF live l')) _ _ φ' κ' w' a' ⟨_, rfl, e2⟩ S D' M' ⟨A'.defers, A'.size, fun d v e => A'.get d v (by rw [trOf_get] at *; exact liveF_get _ _ _ _ e), fun d v e => A'.ok d v (by rw [trOf_get] at *; exact liveF_get _ _ _ _ e)⟩
  | seq x y => simp only [rC, IC.er] at hc; split at hc <;> cases hc
  | cond x y z => simp only [rC, IC.er] at hc; split at hc <;> cases hc
  | rangeFunc f ps x y => simp only [rC, IC.er] at hc; split at hc <;> cases hc
  | _ => simp [rC, IC.er] at hc
theorem ITri.draw {ops : List (IOp × Bool × Nat × Nat)} {live : Option (List Nat)} (ok : POk P) (T : iDraw P 0 ops l h [] fun l' h' => Q .normal (liveF live l') ms h') : ITri P nt rd b (.draw ops live) l ms h Q := by
  intro c hc
  replace hc := hc.resolve_right (by intro e; cases e)
  cases c with
  | region id os d =>
    cases d with
    | false => simp [rC, IC.er] at hc
    | true =>
      simp only [rC, IC.er] at hc
      split at hc
      · rename_i hs
        simp only [Option.map_eq_some_iff, EC.draw.injEq] at hc
        obtain ⟨x, hx, rfl⟩ := hc
        intro K rc w0 φ κ w a B R D M A hk
        obtain ⟨l', h', e1, e2⟩ := iDraw_sound _ _ _ _ _ [] _ R.wl hx T
        have : Tri P nt rd b (.region id os true) (trOf l) ms h fun e t' ms' h'' => e = .normal ∧ t' = trOf l' ∧ ms' = ms ∧ h'' = h' := Tri.draw ok.mixed ok.names ⟨hs, e1⟩ ⟨rfl, rfl, rfl, rfl⟩
        refine this K rc w0 φ κ w a B R D M A fun e t' ms' h'' φ' κ' w' a' q S D' M' A' => ?_
        obtain ⟨rfl, rfl, rfl, rfl⟩ := q
        exact hk .normal (trOf (liveF live l')) _ _ φ' κ' w' a' ⟨_, rfl, e2⟩ S D' M' ⟨A'.defers, A'.size, fun d v e => A'.get d v (by rw [trOf_get] at *; exact liveF_get _ _ _ _ e), fun d v e => A'.ok d v (by rw [trOf_get] at *; exact liveF_get _ _ _ _ e)⟩
      · cases hc
  | seq x y => simp only [rC, IC.er] at hc; split at hc <;> cases hc
  | cond x y z => simp only [rC, IC.er] at hc; split at hc <;> cases hc
  | rangeFunc f ps x y => simp only [rC, IC.er] at hc; split at hc <;> cases hc
  | _ => simp [rC, IC.er] at hc

theorem ITri.seq {x y : IC} (T : ITri P nt rd b x l ms h (SeqQ P nt rd b y Q)) : ITri P nt rd b (.seq x y) l ms h Q := by
  intro c hc
  replace hc := hc.resolve_right (by intro e; cases e)
  cases c with
  | seq c1 c2 =>
    simp only [rC, IC.er] at hc
    split at hc
    · rename_i a1 b1 h1 h2
      injection hc with hc
      injection hc with e1 e2
      subst e1 e2
      refine Tri.seq ((T c1 (.inl h1)).mono ?_)
      rintro e t' ms' h' ⟨l', rfl, q⟩
      cases e with
      | normal => exact q c2 (.inl h2)
      | exit id => exact ⟨l', rfl, q⟩
      | ret => exact ⟨l', rfl, q⟩
    · cases hc
  | region id ops d => cases d <;> simp [rC, IC.er] at hc
  | cond x y z => simp only [rC, IC.er] at hc; split at hc <;> cases hc
  | rangeFunc f ps x y => simp only [rC, IC.er] at hc; split at hc <;> cases hc
  | _ => simp [rC, IC.er] at hc

theorem ITri.cond {x : X} {y z : IC} {v : Bool} (hv : x.ev l = some (.bool v)) (Y : v = true → ITri P nt rd b y l ms h Q) (Z : v = false → ITri P nt rd b z l ms h Q) : ITri P nt rd b (.cond x y z) l ms h Q := by
  intro c hc
  replace hc := hc.resolve_right (by intro e; cases e)
  cases c with
  | cond c0 c1 c2 =>
    simp only [rC, IC.er] at hc
    split at hc
    · rename_i x1 a1 b1 h0 h1 h2
      injection hc with hc
      injection hc with e0 e1 e2
      subst e0 e1 e2
      exact Tri.cond (ev_of h0 hv) (fun e => Y e c1 (.inl h1)) (fun e => Z e c2 (.inl h2))
    · rename_i x1 b1 h0 h1 h2
      injection hc with hc
      injection hc with e0 e1 e2
      subst e0 e2
      exact Tri.cond (ev_of h0 hv) (fun e => Y e c1 (.inr e1.symm)) (fun e => Z e c2 (.inl h2))
    · rename_i x1 a1 h0 h1 h2
      injection hc with hc
      injection hc with e0 e1 e2
      subst e0 e1
      exact Tri.cond (ev_of h0 hv) (fun e => Y e c1 (.inl h1)) (fun e => Z e c2 (.inr e2.symm))
    · cases hc
  | region id ops d => cases d <;> simp [rC, IC.er] at hc
  | seq x y => simp only [rC, IC.er] at hc; split at hc <;> cases hc
  | rangeFunc f ps x y => simp only [rC, IC.er] at hc; split at hc <;> cases hc
  | _ => simp [rC, IC.er] at hc

theorem ITri.block {id : Nat} {x : IC} (T : ITri P nt rd b x l ms h (BlkQ id Q)) : ITri P nt rd b (.block id x) l ms h Q := by
  intro c hc
  replace hc := hc.resolve_right (by intro e; cases e)
  cases c with
  | block j c1 =>
    simp only [rC, IC.er, Option.map_eq_some_iff, EC.block.injEq] at hc
    obtain ⟨a, h1, rfl, rfl⟩ := hc
    refine Tri.block ((T c1 (.inl h1)).mono ?_)
    rintro e t' ms' h' ⟨l', rfl, q⟩
    cases e with
    | normal => exact ⟨l', rfl, q⟩
    | ret => exact ⟨l', rfl, q⟩
    | exit k =>
      simp only [BlkQ] at q ⊢
      by_cases hk : k = j
      · rw [if_pos hk] at q ⊢; exact ⟨l', rfl, q⟩
      · rw [if_neg hk] at q ⊢; exact ⟨l', rfl, q⟩
  | region id ops d => cases d <;> simp [rC, IC.er] at hc
  | seq x y => simp only [rC, IC.er] at hc; split at hc <;> cases hc
  | cond x y z => simp only [rC, IC.er] at hc; split at hc <;> cases hc
  | rangeFunc f ps x y => simp only [rC, IC.er] at hc; split at hc <;> cases hc
  | _ => simp [rC, IC.er] at hc

/-- A loop over a function: the iterator is called with the rounds' name. -/
theorem ITri.rf {fx : X} {ps : List Nat} {ax ay : IC} {live : Option (List Nat)} {g : Nat} {first captured : Array Value} {dn : Nat} {m1 : List Nat} {h1 : AH} (ok : POk P)
    (hf : fx.ev l = some (.func (.func g) first captured)) (hen : aEnter rd ms h = some (dn, m1, h1))
    (F : ∀ (px : Array Tmp) (x y : Code), px.toList = ps → rC P nt x = some ax.er → rC P nt y = some ay.er → ∃ v h2 r, Fc P g (first.toList ++ [.func (.yield h1.next) #[] #[]] ++ captured.toList) (h1.new (.loop ⟨.ready, none, trOf l, nt, px, x, y, dn⟩)) v h2 ∧ h2.get h1.next = some (.loop r) ∧ r.state ≠ .busy ∧
      ∃ e1, jumpEx r.pending = some e1 ∧ Q e1 (liveF live l) m1 (h2.put h1.next (some (.loop { r with state := .exhausted })))) :
    ITri P nt rd b (.rf fx ps ax ay live) l ms h Q := by
  intro c hc
  replace hc := hc.resolve_right (by intro e; cases e)
  cases c with
  | rangeFunc f px x y =>
    simp only [rC, IC.er] at hc
    split at hc
    · rename_i f0 a0 b0 h0 h3 h4
      injection hc with hc
      injection hc with e1 e2 e3 e4
      subst e1 e3 e4
      obtain ⟨v, h2, r, F1, g1, g2, e1, g3, q⟩ := F px x y e2 h3 h4
      intro K rc w0 φ κ w a B R D M A hk
      refine Tri.range (Q := fun e t' ms' h' => e = e1 ∧ t' = trOf l ∧ ms' = m1 ∧ h' = h2.put h1.next (some (.loop { r with state := .exhausted }))) ok.names (ev_of h0 hf) hen F1 g1 g2 g3 ⟨rfl, rfl, rfl, rfl⟩ K rc w0 φ κ w a B R D M A fun e t' ms' h' φ' κ' w' a' q' S D' M' A' => ?_
      obtain ⟨rfl, rfl, rfl, rfl⟩ := q'
      exact hk e (trOf (liveF live l)) _ _ φ' κ' w' a' ⟨_, rfl, q⟩ S D' M' ⟨A'.defers, A'.size, fun d v e => A'.get d v (by rw [trOf_get] at *; exact liveF_get _ _ _ _ e), fun d v e => A'.ok d v (by rw [trOf_get] at *; exact liveF_get _ _ _ _ e)⟩
    · cases hc
  | region id ops d => cases d <;> simp [rC, IC.er] at hc
  | seq x y => simp only [rC, IC.er] at hc; split at hc <;> cases hc
  | cond x y z => simp only [rC, IC.er] at hc; split at hc <;> cases hc
  | _ => simp [rC, IC.er] at hc

/-- A loop: states of a family, one of them to begin with, and a measure. -/
theorem ITri.loop {ι : Type} {x : IC} (S : ι → Fr) (M : ι → List Nat) (H : ι → AH) (J : ι → Prop) (μ : ι → Nat) (i0 : ι) (h0 : J i0) (W : Wk nt b rd (trOf l) ms h (trOf (S i0)) (M i0) (H i0))
    (body : ∀ i, J i → ITri P nt rd b x (S i) (M i) (H i) (LoopQ nt b rd S M H J μ i Q)) :
    ITri P nt rd b (.loop x) l ms h Q := by
  refine ITri.weak W ?_
  intro c hc
  replace hc := hc.resolve_right (by intro e; cases e)
  cases c with
  | loop c1 =>
    simp only [rC, IC.er, Option.map_eq_some_iff, EC.loop.injEq] at hc
    obtain ⟨a, h1, rfl⟩ := hc
    refine Tri.loop (fun i => trOf (S i)) M H J μ i0 h0 fun i hi => (body i hi c1 (.inl h1)).mono ?_
    rintro e t' ms' h' ⟨l', rfl, q⟩
    cases e with
    | normal => exact q
    | exit k => exact ⟨l', rfl, q⟩
    | ret => exact ⟨l', rfl, q⟩
  | region id ops d => cases d <;> simp [rC, IC.er] at hc
  | seq x y => simp only [rC, IC.er] at hc; split at hc <;> cases hc
  | cond x y z => simp only [rC, IC.er] at hc; split at hc <;> cases hc
  | rangeFunc f ps x y => simp only [rC, IC.er] at hc; split at hc <;> cases hc
  | _ => simp [rC, IC.er] at hc
end

section
variable {P : Program} {nt b id : Nat} {rd : Option Nat} {l : Fr} {ms : List Nat} {h : AH} {Q : AEx → Fr → List Nat → AH → Prop} {y : IC}
theorem SeqQ_normal : SeqQ P nt rd b y Q .normal l ms h = ITri P nt rd b y l ms h Q := rfl
theorem SeqQ_exit : SeqQ P nt rd b y Q (.exit id) l ms h = Q (.exit id) l ms h := rfl
theorem SeqQ_ret : SeqQ P nt rd b y Q .ret l ms h = Q .ret l ms h := rfl
theorem BlkQ_normal : BlkQ id Q .normal l ms h = Q .normal l ms h := rfl
theorem BlkQ_ret : BlkQ id Q .ret l ms h = Q .ret l ms h := rfl
theorem BlkQ_hit : BlkQ id Q (.exit id) l ms h = Q .normal l ms h := if_pos rfl
theorem BlkQ_miss {j : Nat} (hj : Nat.beq j id = false) : BlkQ id Q (.exit j) l ms h = Q (.exit j) l ms h := if_neg (fun e => by subst e; rw [Nat.beq_refl] at hj; cases hj)
variable {ι : Type} {S : ι → Fr} {M : ι → List Nat} {H : ι → AH} {J : ι → Prop} {μ : ι → Nat} {i : ι}
theorem LoopQ_exit : LoopQ nt b rd S M H J μ i Q (.exit id) l ms h = Q (.exit id) l ms h := rfl
theorem LoopQ_ret : LoopQ nt b rd S M H J μ i Q .ret l ms h = Q .ret l ms h := rfl
theorem LoopQ.next (j : ι) (h1 : J j) (h2 : μ j < μ i) (W : Wk nt b rd (trOf l) ms h (trOf (S j)) (M j) (H j)) : LoopQ nt b rd S M H J μ i Q .normal l ms h := ⟨j, h1, h2, W⟩
end

/-- What a function returns. -/
def resF (P : Program) (l : Fr) (h : AH) : List ResultVar → Option (List Value)
  | [] => some []
  | .tmp d :: r => match lk l d, resF P l h r with
    | some v, some vs => some (v :: vs)
    | _, _ => none
  | .cell d ty :: r => match lk l d, resF P l h r with
    | some a, some vs => match aLoad P h ty a with
      | some v => some (v :: vs)
      | none => none
    | _, _ => none
theorem resF_eq (P : Program) (l : Fr) (h : AH) : ∀ (rs : List ResultVar), aRes P (trOf l) h rs = resF P l h rs
  | [] => rfl
  | .tmp d :: r => by simp only [aRes, resF, trOf_get, resF_eq P l h r]; rfl
  | .cell d ty :: r => by simp only [aRes, resF, trOf_get, resF_eq P l h r]; rfl

/-- Slots of the arguments. -/
def argF : Nat → List Value → Fr
  | _, [] => []
  | i, v :: r => (i, v) :: argF (i + 1) r
theorem argF_get : ∀ (vs : List Value) (i d : Nat), lk (argF i vs) d = if i ≤ d ∧ d < i + vs.length then vs[d - i]? else none
  | [], i, d => by simp only [argF, lk, List.length_nil]; rw [if_neg (by omega)]
  | v :: r, i, d => by
    simp only [argF, lk, List.length_cons]
    by_cases hd : i = d
    · subst hd; rw [if_pos rfl, if_pos (by omega)]; simp
    · rw [if_neg hd, argF_get r (i + 1) d]
      by_cases h2 : i + 1 ≤ d ∧ d < i + 1 + r.length
      · rw [if_pos h2, if_pos (by omega), show d - i = (d - (i + 1)) + 1 from by omega]; rfl
      · rw [if_neg h2, if_neg (by omega)]

/-- One slot more, to bear what is returned: behind all slots of a function. -/
theorem Fc.intro {P : Program} {f : Nat} {fn : Func} {body : Code} {ic : IC} {args : List Value} {h h' : AH} {v : Value} (hf : P.funcs[f]? = some fn) (hb : fn.body = some body) (hic : rC P fn.ntmps body = some ic.er) (hl : args.length ≤ fn.ntmps) (hg : h.wlim ≤ h.next → Grow h h')
    (T : ITri P fn.ntmps none h.next ic (argF 0 args) [] h fun e l' ms' h1 => (∀ id, e ≠ .exit id) ∧ ms' = [] ∧ ∃ vs, resF P l' h1 fn.results.toList = some vs ∧ Wk (fn.ntmps + 1) h.next none ((trOf l').put fn.ntmps (some (packV vs))) [] h1 ((Tr.leaf).put fn.ntmps (some v)) [] h') :
    Fc P f args h v h' := by
  refine ⟨hg, ⟨fn, body, hf, hb⟩, fun w0 φ κ w R ha => ?_⟩
  refine callsIn_wide.1 (callsIn_of_wp_marks (F := Fence.wide) (n := 0) hf hb trivial ?_ rfl)
  have A0 : ARel φ κ h.N fn.ntmps (trOf (argF 0 args)) [] { tmps := (args.map (ren φ κ)).toArray ++ Array.replicate (fn.ntmps - (args.map (ren φ κ)).toArray.size) undef, defers := [] } := by
    refine ⟨rfl, by simp; omega, fun d v hd => ?_, fun d v hd => ?_⟩
    · rw [trOf_get, argF_get] at hd
      split at hd
      · rename_i hlt
        rw [Array.getElem?_append_left (by simp; omega)]
        rw [Nat.sub_zero] at hd
        simp [hd]
      · cases hd
    · rw [trOf_get, argF_get] at hd
      split at hd
      · exact ha _ (List.mem_of_getElem? hd)
      · cases hd
  refine T body (.inl hic) _ none w0 φ κ w _ (Nat.le_refl _) R trivial (fun m hm => by cases hm) A0 ?_
  rintro e t' ms' h1 φ1 κ1 w1 a1 ⟨l', rfl, q1, rfl, vs, q2, q3⟩ S1 D1 M1 A1
  have hfin : LeavesInM Fence.wide 0 P fn a1.tmps (fun e w' => ∃ φ' κ', e = .returned (ren φ' κ' v) ∧ Step w0 φ κ h φ' κ' h' w' ∧ okV h'.N κ' v) a1.defers .returning w1 := by
    have hds : a1.defers = [] := A1.defers
    rw [hds]
    obtain ⟨r1, r2⟩ := results_sound (P := P) (fn := fn) (l := vs) A1 S1.rel (by rw [resF_eq]; exact q2)
    refine ⟨_, r1, ?_⟩
    -- one slot more
    have A2 : ARel φ1 κ1 h1.N (fn.ntmps + 1) ((trOf l').put fn.ntmps (some (packV vs))) [] { tmps := a1.tmps.push (ren φ1 κ1 (packV vs)), defers := [] } := by
      refine ⟨rfl, by simp [A1.size], fun d u hd => ?_, fun d u hd => ?_⟩
      · rw [Tr.get_put] at hd
        by_cases hx : d = fn.ntmps
        · rw [if_pos hx] at hd
          injection hd with hd
          subst hd hx
          show (a1.tmps.push _)[fn.ntmps]? = _
          rw [Array.getElem?_push, if_pos A1.size.symm]
        · rw [if_neg hx] at hd
          have := A1.get d u hd
          show (a1.tmps.push _)[d]? = _
          rw [Array.getElem?_push, if_neg (by rw [A1.size]; exact hx)]
          exact this
      · rw [Tr.get_put] at hd
        by_cases hx : d = fn.ntmps
        · rw [if_pos hx] at hd
          injection hd with hd
          subst hd
          exact r2
        · rw [if_neg hx] at hd
          exact A1.ok d u hd
    obtain ⟨φ2, κ2, S2, _, _, A3⟩ := q3 w0 φ1 κ1 w1 _ none S1.next S1.rel trivial (fun m hm => by cases hm) A2
    have g1 := A3.get fn.ntmps v (by rw [Tr.get_put, if_pos rfl])
    have g2 := A3.ok fn.ntmps v (by rw [Tr.get_put, if_pos rfl])
    have g3 : ren φ1 κ1 (packV vs) = ren φ2 κ2 v := by
      have : (a1.tmps.push (ren φ1 κ1 (packV vs)))[fn.ntmps]? = some (ren φ2 κ2 v) := g1
      rw [Array.getElem?_push, if_pos A1.size.symm] at this
      exact Option.some.inj this
    have S := S1.trans S2
    -- beyond what is in use, names mean what they meant
    let φ3 : Nat → Nat × Nat := fun k => if k < h'.next then φ2 k else φ k
    let κ3 : Nat → Nat := fun k => if k < h'.next then κ2 k else κ k
    have hag : ∀ k, h'.N k → φ3 k = φ2 k ∧ κ3 k = κ2 k := fun k hk => ⟨if_pos (sees_lt hk), if_pos (sees_lt hk)⟩
    refine ⟨φ3, κ3, by rw [g3, ren_congr hag v g2], ⟨fun k hk => ?_, ?_, S.next, S.hid, S.wlim, S.keep⟩, ok_mono (fun _ x => x) (fun k hk => (hag k hk).2) v g2⟩
    · by_cases hk2 : k < h'.next
      · have hk3 : k < h.next := by omega
        have e1 : φ3 k = φ2 k := if_pos hk2
        have e2 : κ3 k = κ2 k := if_pos hk2
        rw [e1, e2]
        exact S.agr k hk3
      · exact ⟨if_neg hk2, if_neg hk2⟩
    · refine ⟨S.rel.below, S.rel.hid, S.rel.wl, fun k o g => ?_, fun k o g hr hk => ?_, fun k k' o o' g g' hr hr' hk e => ?_⟩
      · exact (S.rel.ent k o g).move (fun _ x => x) hag (hag k (get_sees g)) fun _ => rfl
      · rw [(hag k (get_sees g)).1]; exact S.rel.own k o g (rl_congr (hag k (get_sees g)).2 hr) hk
      · rw [(hag k (get_sees g)).1, (hag k' (get_sees g')).1] at e
        exact S.rel.inj k k' o o' g g' (rl_congr (hag k (get_sees g)).2 hr) (rl_congr (hag k' (get_sees g')).2 hr') hk e
  cases e with
  | normal => exact hfin
  | ret => exact hfin
  | exit id => exact absurd rfl (q1 id)
end Go.Vm

/- VnB: Walks on memory by names, second part: memory as a list; rows of elements; other names, seen on lists. -/
namespace Go.Vm
open Go Go.RowKit

/- tries, whose rows are written in whatever order -/
theorem set_leaf {α : Type} (f : Nat) (n : Nat) (x : Option α) : Tr.set (f + 1) .leaf n x = Tr.set (f + 1) (.node .leaf none .leaf) n x := rfl
theorem set_fuel {α : Type} : ∀ (f g : Nat) (t : Tr α) (n : Nat) (x : Option α), n < f → n < g → Tr.set f t n x = Tr.set g t n x := by
  intro f
  induction f with
  | zero => intro g t n x h; omega
  | succ f ih =>
    intro g t n x h1 h2
    cases g with
    | zero => omega
    | succ g =>
      have key : ∀ (l r : Tr α) (v : Option α), Tr.set (f + 1) (.node l v r) n x = Tr.set (g + 1) (.node l v r) n x := by
        intro l r v
        simp only [Tr.set]
        by_cases h0 : n = 0
        · rw [if_pos h0, if_pos h0]
        · rw [if_neg h0, if_neg h0, ih g l (n / 2) x (by omega) (by omega), ih g r (n / 2 - 1) x (by omega) (by omega)]
      cases t with
      | leaf => rw [set_leaf, set_leaf]; exact key _ _ _
      | node l v r => exact key l r v
theorem set_comm {α : Type} : ∀ (f : Nat) (t : Tr α) (n k : Nat) (x y : Option α), n < f → k < f → k ≠ n → Tr.set f (Tr.set f t n x) k y = Tr.set f (Tr.set f t k y) n x := by
  intro f
  induction f with
  | zero => intro t n k x y h; omega
  | succ f ih =>
    intro t n k x y h1 h2 hne
    have key : ∀ (l r : Tr α) (v : Option α), Tr.set (f + 1) (Tr.set (f + 1) (.node l v r) n x) k y = Tr.set (f + 1) (Tr.set (f + 1) (.node l v r) k y) n x := by
      intro l r v
      by_cases hn : n = 0
      · have hk : ¬ k = 0 := by omega
        subst hn
        by_cases kp : k % 2 = 1
        · simp [Tr.set, hk, kp]
        · simp [Tr.set, hk, kp]
      · by_cases hk : k = 0
        · subst hk
          by_cases np : n % 2 = 1
          · simp [Tr.set, hn, np]
          · simp [Tr.set, hn, np]
        · by_cases np : n % 2 = 1
          · by_cases kp : k % 2 = 1
            · simp [Tr.set, hn, hk, np, kp, ih l (n / 2) (k / 2) x y (by omega) (by omega) (by omega)]
            · simp [Tr.set, hn, hk, np, kp]
          · by_cases kp : k % 2 = 1
            · simp [Tr.set, hn, hk, np, kp]
            · simp [Tr.set, hn, hk, np, kp, ih r (n / 2 - 1) (k / 2 - 1) x y (by omega) (by omega) (by omega)]
    cases t with
    | leaf => rw [set_leaf, set_leaf]; exact key _ _ _
    | node l v r => exact key l r v
theorem set_same {α : Type} : ∀ (f : Nat) (t : Tr α) (n : Nat) (x y : Option α), n < f → Tr.set f (Tr.set f t n x) n y = Tr.set f t n y := by
  intro f
  induction f with
  | zero => intro t n x y h; omega
  | succ f ih =>
    intro t n x y h1
    have key : ∀ (l r : Tr α) (v : Option α), Tr.set (f + 1) (Tr.set (f + 1) (.node l v r) n x) n y = Tr.set (f + 1) (.node l v r) n y := by
      intro l r v
      simp only [Tr.set]
      by_cases hn : n = 0
      · simp only [hn, if_true, Tr.set]
      · simp only [hn, if_false]
        by_cases np : n % 2 = 1
        · simp only [np, if_true, Tr.set]
          rw [if_neg hn, ih l (n / 2) x y (by omega)]
        · simp only [np, if_false, Tr.set]
          rw [if_neg hn, ih r (n / 2 - 1) x y (by omega)]
    cases t with
    | leaf => rw [set_leaf, set_leaf]; exact key _ _ _
    | node l v r => exact key l r v
theorem put_comm {α : Type} (t : Tr α) {n k : Nat} (x y : Option α) (h : k ≠ n) : (t.put n x).put k y = (t.put k y).put n x := by
  unfold Tr.put
  rw [set_fuel (k + 1) (n + k + 1) _ k y (by omega) (by omega), set_fuel (n + 1) (n + k + 1) t n x (by omega) (by omega), set_comm (n + k + 1) t n k x y (by omega) (by omega) h,
    set_fuel (n + k + 1) (n + 1) _ n x (by omega) (by omega), set_fuel (n + k + 1) (k + 1) t k y (by omega) (by omega)]
theorem put_same {α : Type} (t : Tr α) (n : Nat) (x y : Option α) : (t.put n x).put n y = t.put n y := set_same (n + 1) t n x y (by omega)

theorem snoc_ind {α : Type} {p : List α → Prop} (h0 : p []) (h1 : ∀ l x, p l → p (l ++ [x])) (l : List α) : p l := by
  have : ∀ r : List α, p r.reverse := by
    intro r
    induction r with
    | nil => exact h0
    | cons x r ih => rw [List.reverse_cons]; exact h1 _ _ ih
  simpa using this l.reverse

/-- Memory as a list of objects. -/
def trL (L : List (Option AObj)) : Tr AObj := L.zipIdx.foldl (fun t p => t.put p.2 p.1) .leaf
theorem trL_snoc (L : List (Option AObj)) (x : Option AObj) : trL (L ++ [x]) = (trL L).put L.length x := by
  unfold trL
  rw [List.zipIdx_append, List.foldl_append]
  simp
theorem trL_get (L : List (Option AObj)) (k : Nat) : (trL L).get k = (L[k]?).join := by
  induction L using snoc_ind with
  | h0 => rfl
  | h1 L x ih =>
    rw [trL_snoc, Tr.get_put]
    by_cases h : k = L.length
    · rw [if_pos h, h]; simp
    · rw [if_neg h, ih]
      rcases Nat.lt_or_ge k L.length with h1 | h1
      · rw [List.getElem?_append_left h1]
      · rw [List.getElem?_eq_none h1, List.getElem?_append_right h1, List.getElem?_eq_none (by simp; omega)]
theorem trL_set (L : List (Option AObj)) (k : Nat) (x : Option AObj) (hk : k < L.length) : trL (L.set k x) = (trL L).put k x := by
  induction L using snoc_ind with
  | h0 => simp at hk
  | h1 L y ih =>
    by_cases h : k = L.length
    · subst h
      rw [trL_snoc, put_same, List.set_append_right _ _ (Nat.le_refl _)]
      simp [trL_snoc]
    · have h1 : k < L.length := by simp at hk; omega
      rw [List.set_append_left _ _ h1, trL_snoc, trL_snoc, ih h1, List.length_set, put_comm _ _ _ h]

def Hq (wl : Nat) (hid : List (Nat × Nat)) (L : List (Option AObj)) : AH := ⟨trL L, L.length, wl, hid⟩
abbrev Hp (wl : Nat) (L : List (Option AObj)) : AH := Hq wl [] L

section
variable {wl wl' : Nat} {hid hid' : List (Nat × Nat)} {L L' : List (Option AObj)}
theorem Hq_next : (Hq wl hid L).next = L.length := rfl
theorem Hq_wlim : (Hq wl hid L).wlim = wl := rfl
theorem Hq_hid : (Hq wl hid L).hid = hid := rfl
theorem Hq_new (o : AObj) : (Hq wl hid L).new o = Hq wl hid (L ++ [some o]) := by
  unfold AH.new Hq
  rw [trL_snoc]
  simp
theorem Hq_put (k : Nat) (x : Option AObj) (hk : k < L.length) : (Hq wl hid L).put k x = Hq wl hid (L.set k x) := by
  unfold AH.put Hq
  rw [trL_set L k x hk]
  simp
theorem Hq_sees (k : Nat) : (Hq wl hid L).sees k = (decide (k < L.length) && !(hid.any fun p => decide (p.1 ≤ k) && decide (k < p.2))) := rfl
theorem Hq_get (k : Nat) : (Hq wl hid L).get k = if (hid.any fun p => decide (p.1 ≤ k) && decide (k < p.2)) then none else (L[k]?).join := by
  unfold AH.get
  rw [Hq_sees]
  show (if _ then (trL L).get k else none) = _
  rw [trL_get]
  by_cases h : k < L.length
  · simp only [h, decide_true, Bool.true_and]
    cases (hid.any fun p => decide (p.1 ≤ k) && decide (k < p.2)) <;> rfl
  · rw [List.getElem?_eq_none (by omega)]
    simp
def hidL (m : Nat) : List (Nat × Nat × Nat) → List (Nat × Nat)
  | [] => []
  | x :: r => if decide (x.2.1 < x.2.2) && !m.testBit x.1 then x.2 :: hidL m r else hidL m r
theorem hidL_eq (m : Nat) : ∀ news : List (Nat × Nat × Nat), (news.filter fun x => decide (x.2.1 < x.2.2) && !m.testBit x.1).map (·.2) = hidL m news
  | [] => rfl
  | x :: r => by
    simp only [List.filter_cons, hidL]
    split
    · rw [List.map_cons, hidL_eq]
    · exact hidL_eq m r
theorem Hq_view (m : Nat) (news : List (Nat × Nat × Nat)) : viewM (Hq wl hid L) m news = Hq L.length (hid ++ hidL m news) L := by
  unfold viewM
  rw [hidL_eq]
  rfl
theorem Hq_lview (m : Nat) (news : List (Nat × Nat × Nat)) : lviewM (Hq wl hid L) m news = Hq wl (hid ++ hidL m news) L := by
  unfold lviewM
  rw [Hq_view]
  rfl
def backl (h h' : AH) : AH := { h' with hid := h.hid }
theorem Hq_backl : backl (Hq wl hid L) (Hq wl' hid' L') = Hq wl' hid L' := rfl
theorem hidL_nil (m : Nat) : hidL m [] = [] := rfl
theorem hidL_hid {m a b n : Nat} {r : List (Nat × Nat × Nat)} (h : (Nat.blt a b && !m.testBit n) = true) : hidL m ((n, a, b) :: r) = (a, b) :: hidL m r := by
  rw [Bool.and_eq_true, Nat.blt_eq] at h
  exact if_pos (by simp [h.1, h.2])
theorem hidL_see {m a b n : Nat} {r : List (Nat × Nat × Nat)} (h : (Nat.blt a b && !m.testBit n) = false) : hidL m ((n, a, b) :: r) = hidL m r := by
  refine if_neg ?_
  intro e
  rw [Bool.and_eq_true, decide_eq_true_eq, ← Nat.blt_eq] at e
  rw [e.1, e.2] at h
  cases h
/-- A name that is not hidden. -/
def freeOf (hid : List (Nat × Nat)) (k : Nat) : Bool := hid.all fun p => Nat.blt k p.1 || Nat.ble p.2 k
theorem free_get {k : Nat} (h : freeOf hid k = true) : (Hq wl hid L).get k = (L[k]?).join := by
  rw [Hq_get, if_neg]
  rw [List.any_eq_true]
  rintro ⟨p, hp, hc⟩
  have := List.all_eq_true.1 h p hp
  simp only [Bool.or_eq_true, Nat.blt_eq, Nat.ble_eq] at this
  simp only [Bool.and_eq_true, decide_eq_true_eq] at hc
  omega
theorem free_sees {k : Nat} (hk : k < L.length) (h : freeOf hid k = true) : (Hq wl hid L).sees k = true := by
  rw [Hq_sees]
  simp only [Bool.and_eq_true, decide_eq_true_eq, Bool.not_eq_true']
  refine ⟨hk, ?_⟩
  rw [Bool.eq_false_iff]
  intro e
  rw [List.any_eq_true] at e
  obtain ⟨p, hp, hc⟩ := e
  have := List.all_eq_true.1 h p hp
  simp only [Bool.or_eq_true, Nat.blt_eq, Nat.ble_eq] at this
  simp only [Bool.and_eq_true, decide_eq_true_eq] at hc
  omega
theorem Hq_back : back (Hq wl hid L) (Hq wl' hid' L') = Hq wl hid L' := rfl
theorem Hq_news (os : List AObj) : (Hq wl hid L).news os = Hq wl hid (L ++ os.map some) := by
  induction os generalizing L with
  | nil => simp [news_nil]
  | cons o os ih => rw [news_cons, Hq_new, ih]; simp
end

/-- Rows of elements. -/
def rows {α : Type} (f : α → List Value) (xs : List α) : List Value := xs.flatMap f
def nth {α : Type} [Inhabited α] (xs : List α) (i : Nat) : α := xs.getD i default
theorem nth_of {α : Type} [Inhabited α] {xs : List α} {i : Nat} {x : α} (h : xs[i]? = some x) : nth xs i = x := by unfold nth; rw [List.getD_eq_getElem?_getD, h]; rfl
theorem get_nth {α : Type} [Inhabited α] {xs : List α} {i : Nat} (h : i < xs.length) : xs[i]? = some (nth xs i) := by
  rw [List.getElem?_eq_getElem h, nth_of (List.getElem?_eq_getElem h)]
theorem nth_mem {α : Type} [Inhabited α] {xs : List α} {i : Nat} (h : i < xs.length) : nth xs i ∈ xs := List.mem_of_getElem? (get_nth h)
theorem take_nth {α : Type} [Inhabited α] {xs : List α} {i : Nat} (h : i < xs.length) : xs.take (i + 1) = xs.take i ++ [nth xs i] := by
  rw [List.take_add_one, get_nth h]; rfl

/-- Elements of c cells each, without addresses. -/
class FlatE {α : Type} (f : α → List Value) (c : outParam Nat) : Prop where
  len : ∀ x, (f x).length = c
  no : ∀ x, noAddrL (f x) = true
  one : ∀ x, (f x).all Value.oneCell' = true

section
variable {α : Type} {f : α → List Value} {c : Nat} [F : FlatE f c] {xs : List α} {i j : Nat}
theorem rows_nil : rows f [] = [] := rfl
theorem rows_append (xs ys : List α) : rows f (xs ++ ys) = rows f xs ++ rows f ys := List.flatMap_append
theorem rows_cons (x : α) (xs : List α) : rows f (x :: xs) = f x ++ rows f xs := List.flatMap_cons
theorem rows_one (x : α) : rows f [x] = f x := by simp [rows]
theorem rows_len (xs : List α) : (rows f xs).length = xs.length * c := by
  induction xs with
  | nil => simp [rows]
  | cons x xs ih => rw [rows_cons, List.length_append, F.len, ih, List.length_cons, Nat.succ_mul]; omega
theorem rows_drop (xs : List α) (i : Nat) : (rows f xs).drop (i * c) = rows f (xs.drop i) := by
  induction i generalizing xs with
  | zero => simp
  | succ i ih =>
    cases xs with
    | nil => simp [rows]
    | cons x xs =>
      rw [rows_cons, List.drop_succ_cons, ← ih, Nat.succ_mul, Nat.add_comm, ← List.drop_drop, ← F.len x, List.drop_left']
      rfl
theorem rows_take (xs : List α) (i : Nat) : (rows f xs).take (i * c) = rows f (xs.take i) := by
  induction i generalizing xs with
  | zero => simp [rows]
  | succ i ih =>
    cases xs with
    | nil => simp [rows]
    | cons x xs =>
      rw [rows_cons, List.take_succ_cons, rows_cons, Nat.succ_mul, Nat.add_comm, List.take_add, List.take_left' (F.len x), List.drop_left' (F.len x), ih]
theorem rows_get [Inhabited α] (hi : i < xs.length) (hj : j < c) : (rows f xs)[i * c + j]? = (f (nth xs i))[j]? := by
  rw [← List.getElem?_drop, rows_drop, List.drop_eq_getElem_cons hi, rows_cons, List.getElem?_append_left (by rw [F.len]; exact hj), ← nth_of (List.getElem?_eq_getElem hi)]
theorem rows_slice [Inhabited α] (hi : i < xs.length) : ((rows f xs).drop (i * c)).take c = f (nth xs i) := by
  rw [rows_drop, List.drop_eq_getElem_cons hi, rows_cons, List.take_left' (F.len _), ← nth_of (List.getElem?_eq_getElem hi)]
theorem rows_write (x : α) (hi : i < xs.length) : writeAt (rows f xs) (i * c) (f x) = rows f (xs.set i x) := by
  unfold writeAt
  rw [F.len, rows_take, show i * c + c = (i + 1) * c from by rw [Nat.succ_mul], rows_drop, List.set_eq_take_append_cons_drop, if_pos hi, rows_append, rows_cons, List.append_assoc]
omit F in
theorem noAddrL_append (a b : List Value) : noAddrL (a ++ b) = (noAddrL a && noAddrL b) := by
  induction a with
  | nil => simp [noAddrL]
  | cons v r ih => simp [noAddrL, ih, Bool.and_assoc]
include F in
theorem rows_no (xs : List α) : noAddrL (rows f xs) = true := by
  induction xs with
  | nil => rfl
  | cons x xs ih => rw [rows_cons, noAddrL_append, F.no, ih]; rfl
include F in
theorem rows_one' (xs : List α) : (rows f xs).all Value.oneCell' = true := by
  induction xs with
  | nil => rfl
  | cons x xs ih => rw [rows_cons, List.all_append, F.one, ih]; rfl
end

mutual
theorem mv_noAddr (σ : Nat → Nat) (ξ : Nat → Xi) : ∀ (v : Value), noAddr v = true → mv σ ξ v = v
  | .pointer none, _ => rfl
  | .pointer (some _), h => by simp [noAddr] at h
  | .slice none _ _, _ => rfl
  | .slice (some _) _ _, h => by simp [noAddr] at h
  | .map none, _ => rfl
  | .map (some _), h => by simp [noAddr] at h
  | .func fn first captured, h => by
    simp only [noAddr, Bool.and_eq_true] at h
    simp only [mv, mvA_noAddr σ ξ first h.2.1, mvA_noAddr σ ξ captured h.2.2]
    cases fn <;> first | rfl | (simp [noYield] at h)
  | .iface _ v, h => by simp only [noAddr] at h; simp only [mv, mv_noAddr σ ξ v h]
  | .agg cs, h => by simp only [noAddr] at h; simp only [mv, mvA_noAddr σ ξ cs h]
  | .tuple cs, h => by simp only [noAddr] at h; simp only [mv, mvA_noAddr σ ξ cs h]
  | .chan _, _ => by simp [mv]
  | .bool _, _ => by simp [mv]
  | .int _ _, _ => by simp [mv]
  | .float _ _, _ => by simp [mv]
  | .complex _ _ _, _ => by simp [mv]
  | .string _, _ => by simp [mv]
  | .nilFunc, _ => by simp [mv]
  | .nilIface, _ => by simp [mv]
theorem mvA_noAddr (σ : Nat → Nat) (ξ : Nat → Xi) : ∀ (a : Array Value), noAddrA a = true → mvA σ ξ a = a
  | ⟨l⟩, h => by simp only [noAddrA] at h; simp only [mvA, mvL_noAddr σ ξ l h]
theorem mvL_noAddr (σ : Nat → Nat) (ξ : Nat → Xi) : ∀ (l : List Value), noAddrL l = true → mvL σ ξ l = l
  | [], _ => rfl
  | v :: r, h => by
    simp only [noAddrL, Bool.and_eq_true] at h
    simp only [mvL, mv_noAddr σ ξ v h.1, mvL_noAddr σ ξ r h.2]
end
mutual
theorem okM_noAddr (ξ : Nat → Xi) (B : Nat) : ∀ (v : Value), noAddr v = true → okM ξ B v
  | .pointer none, _ => by simp [okM]
  | .pointer (some _), h => by simp [noAddr] at h
  | .slice none _ _, _ => by simp [okM]
  | .slice (some _) _ _, h => by simp [noAddr] at h
  | .map none, _ => by simp [okM]
  | .map (some _), h => by simp [noAddr] at h
  | .func fn first captured, h => by
    simp only [noAddr, Bool.and_eq_true] at h
    simp only [okM]
    refine ⟨?_, okMA_noAddr ξ B first h.2.1, okMA_noAddr ξ B captured h.2.2⟩
    cases fn <;> first | trivial | (simp [noYield] at h)
  | .iface _ v, h => by simp only [noAddr] at h; simp only [okM]; exact okM_noAddr ξ B v h
  | .agg cs, h => by simp only [noAddr] at h; simp only [okM]; exact okMA_noAddr ξ B cs h
  | .tuple cs, h => by simp only [noAddr] at h; simp only [okM]; exact okMA_noAddr ξ B cs h
  | .chan none, _ => by simp [okM]
  | .chan (some _), h => by simp [noAddr] at h
  | .bool _, _ => by simp [okM]
  | .int _ _, _ => by simp [okM]
  | .float _ _, _ => by simp [okM]
  | .complex _ _ _, _ => by simp [okM]
  | .string _, _ => by simp [okM]
  | .nilFunc, _ => by simp [okM]
  | .nilIface, _ => by simp [okM]
theorem okMA_noAddr (ξ : Nat → Xi) (B : Nat) : ∀ (a : Array Value), noAddrA a = true → okMA ξ B a
  | ⟨l⟩, h => by simp only [noAddrA] at h; simp only [okMA]; exact okML_noAddr ξ B l h
theorem okML_noAddr (ξ : Nat → Xi) (B : Nat) : ∀ (l : List Value), noAddrL l = true → okML ξ B l
  | [], _ => trivial
  | v :: r, h => by
    simp only [noAddrL, Bool.and_eq_true] at h
    exact ⟨okM_noAddr ξ B v h.1, okML_noAddr ξ B r h.2⟩
end
mutual
theorem mw_noAddr (ψ : Nat → Nat × Nat × Bool) : ∀ (v : Value), noAddr v = true → mw ψ v = v
  | .pointer none, _ => rfl
  | .pointer (some _), h => by simp [noAddr] at h
  | .slice none _ _, _ => rfl
  | .slice (some _) _ _, h => by simp [noAddr] at h
  | .map none, _ => rfl
  | .map (some _), h => by simp [noAddr] at h
  | .func fn first captured, h => by
    simp only [noAddr, Bool.and_eq_true] at h
    simp only [mw, mwA_noAddr ψ first h.2.1, mwA_noAddr ψ captured h.2.2]
    cases fn <;> first | rfl | (simp [noYield] at h)
  | .iface _ v, h => by simp only [noAddr] at h; simp only [mw, mw_noAddr ψ v h]
  | .agg cs, h => by simp only [noAddr] at h; simp only [mw, mwA_noAddr ψ cs h]
  | .tuple cs, h => by simp only [noAddr] at h; simp only [mw, mwA_noAddr ψ cs h]
  | .chan _, _ => by simp [mw]
  | .bool _, _ => by simp [mw]
  | .int _ _, _ => by simp [mw]
  | .float _ _, _ => by simp [mw]
  | .complex _ _ _, _ => by simp [mw]
  | .string _, _ => by simp [mw]
  | .nilFunc, _ => by simp [mw]
  | .nilIface, _ => by simp [mw]
theorem mwA_noAddr (ψ : Nat → Nat × Nat × Bool) : ∀ (a : Array Value), noAddrA a = true → mwA ψ a = a
  | ⟨l⟩, h => by simp only [noAddrA] at h; simp only [mwA, mwL_noAddr ψ l h]
theorem mwL_noAddr (ψ : Nat → Nat × Nat × Bool) : ∀ (l : List Value), noAddrL l = true → mwL ψ l = l
  | [], _ => rfl
  | v :: r, h => by
    simp only [noAddrL, Bool.and_eq_true] at h
    simp only [mwL, mw_noAddr ψ v h.1, mwL_noAddr ψ r h.2]
end
section
variable {α : Type} {f : α → List Value} {c : Nat} [F : FlatE f c] {xs : List α}
include F in
theorem mvL_rows (σ : Nat → Nat) (ξ : Nat → Xi) : mvL σ ξ (rows f xs) = rows f xs := mvL_noAddr _ _ _ (rows_no xs)
include F in
theorem okML_rows (ξ : Nat → Xi) (B : Nat) : okML ξ B (rows f xs) := okML_noAddr _ _ _ (rows_no xs)
include F in
theorem mwL_rows (ψ : Nat → Nat × Nat × Bool) : mwL ψ (rows f xs) = rows f xs := mwL_noAddr _ _ (rows_no xs)
end
end Go.Vm

/- VnC: Walks on memory by names, third part: the same state on lists; contracts of what only reads slices. -/
namespace Go.Vm
open Go Go.RowKit

def sgL (σL : List Nat) (k : Nat) : Nat := (σL[k]?).getD k
def xiL : List (Nat × Xi) → Nat → Xi
  | [], _ => .same
  | (a, c) :: r, k => if a = k then c else xiL r k
def objAt (σ : Nat → Nat) (ξ : Nat → Xi) (B : Nat) (L : List (Option AObj)) (k : Nat) (o2 : AObj) : Xi → Prop
  | .nil => nilO o2
  | _ => match (L[σ k]?).join with
      | some o => OM σ ξ B k o o2
      | none => False
def objOK (σ : Nat → Nat) (ξ : Nat → Xi) (B : Nat) (L : List (Option AObj)) : Nat → List (Option AObj) → Prop
  | _, [] => True
  | k, x :: r => (match x with
    | none => True
    | some o2 => objAt σ ξ B L k o2 (ξ k)) ∧ objOK σ ξ B L (k + 1) r
def valOK (σ : Nat → Nat) (ξ : Nat → Xi) (B : Nat) (l : Fr) : Fr → Prop
  | [] => True
  | (d, v) :: r => lk l d = some (mv σ ξ v) ∧ okM ξ B v ∧ valOK σ ξ B l r

theorem objOK_at {σ : Nat → Nat} {ξ : Nat → Xi} {B : Nat} {L : List (Option AObj)} : ∀ {L2 : List (Option AObj)} {i : Nat}, objOK σ ξ B L i L2 → ∀ {k : Nat} {o2 : AObj}, L2[k]? = some (some o2) → (ξ (i + k) = .nil ∧ nilO o2) ∨ (ξ (i + k) ≠ .nil ∧ ∃ o, (L[σ (i + k)]?).join = some o ∧ OM σ ξ B (i + k) o o2) := by
  intro L2
  induction L2 with
  | nil => intro i _ k o2 h; simp at h
  | cons x r ih =>
    intro i hk k o2 h
    obtain ⟨h1, h2⟩ := hk
    cases k with
    | zero =>
      simp only [List.getElem?_cons_zero, Option.some.injEq] at h
      subst h
      have fin : (match (L[σ i]?).join with | some o => OM σ ξ B i o o2 | none => False) → ∃ o, (L[σ i]?).join = some o ∧ OM σ ξ B i o o2 := by
        intro h1
        split at h1
        · rename_i o ho
          exact ⟨o, ho, h1⟩
        · exact h1.elim
      simp only at h1
      rw [Nat.add_zero]
      cases hx : ξ i with
      | nil => rw [hx] at h1; exact .inl ⟨rfl, h1⟩
      | same => rw [hx] at h1; exact .inr ⟨by simp, fin h1⟩
      | room C => rw [hx] at h1; exact .inr ⟨by simp, fin h1⟩
    | succ k =>
      have := ih h2 (k := k) (by simpa using h)
      rw [show i + (k + 1) = i + 1 + k from by omega]
      exact this
theorem lk_mem : ∀ {l : Fr} {d : Nat} {v : Value}, lk l d = some v → (d, v) ∈ l
  | [], _, _, h => by cases h
  | (a, u) :: r, d, v, h => by
    simp only [lk] at h
    split at h
    · rename_i e
      subst e
      injection h with h
      subst h
      simp
    · exact List.mem_cons_of_mem _ (lk_mem h)
theorem valOK_at {σ : Nat → Nat} {ξ : Nat → Xi} {B : Nat} {l : Fr} : ∀ {l2 : Fr}, valOK σ ξ B l l2 → ∀ {d : Nat} {v : Value}, (d, v) ∈ l2 → lk l d = some (mv σ ξ v) ∧ okM ξ B v
  | [], _, _, _, h => by cases h
  | (a, u) :: r, hk, d, v, h => by
    obtain ⟨h1, h2, h3⟩ := hk
    rcases List.mem_cons.1 h with h | h
    · injection h with e1 e2
      subst e1 e2
      exact ⟨h1, h2⟩
    · exact valOK_at h3 h
theorem xiL_mem : ∀ {ξL : List (Nat × Xi)} {k : Nat}, xiL ξL k ≠ .same → (k, xiL ξL k) ∈ ξL
  | [], _, h => absurd rfl h
  | (a, u) :: r, d, h => by
    simp only [xiL] at h ⊢
    split
    · rename_i e
      subst e
      simp
    · rename_i e
      rw [if_neg e] at h
      exact List.mem_cons_of_mem _ (xiL_mem h)
theorem xiL_ok {ξL : List (Nat × Xi)} (h : ∀ p ∈ ξL, p.2.ok) (k : Nat) : (xiL ξL k).ok := by
  by_cases hx : xiL ξL k = .same
  · rw [hx]; trivial
  · exact h _ (xiL_mem hx)
theorem xiL_low {ξL : List (Nat × Xi)} {b : Nat} (h : ∀ p ∈ ξL, b ≤ p.1) {k : Nat} (hk : k < b) : xiL ξL k = .same := by
  by_cases hx : xiL ξL k = .same
  · exact hx
  · have := h _ (xiL_mem hx); simp only at this; omega

theorem Hp_get {wl : Nat} {L : List (Option AObj)} (k : Nat) : (Hp wl L).get k = (L[k]?).join := by
  rw [Hq_get]; rfl

/-- The same state under other names, on lists. -/
theorem Wk.gc {nt b wl : Nat} {rd : Option Nat} {l l2 : Fr} {ms ms2 : List Nat} {L L2 : List (Option AObj)} (σL : List Nat) (ξL : List (Nat × Xi)) (hb : wl ≤ b) (hb2 : b ≤ L2.length) (hlow : σL.take b = List.range b) (hlen : σL.length = L2.length) (hnd : σL.Nodup)
    (hhigh : (σL.drop wl).all (fun s => decide (wl ≤ s)) = true) (hxi : ξL.all (fun p => decide (b ≤ p.1)) = true) (hroom : ∀ p ∈ ξL, p.2.ok) (keep : L2.take wl = L.take wl)
    (obj : objOK (sgL σL) (xiL ξL) L2.length L 0 L2) (val : valOK (sgL σL) (xiL ξL) L2.length l l2) (hrd : ∀ k, rd = some k → k < b) (hms : ms = ms2.map (sgL σL) ∧ ∀ m ∈ ms2, m < L2.length ∧ okP (xiL ξL m)) :
    Wk nt b rd (trOf l) ms (Hp wl L) (trOf l2) ms2 (Hp wl L2) := by
  have hget : ∀ k, k < L2.length → ∃ s, σL[k]? = some s ∧ sgL σL k = s := fun k hk => ⟨σL[k]'(by omega), List.getElem?_eq_getElem (by omega), by unfold sgL; rw [List.getElem?_eq_getElem (by omega)]; rfl⟩
  have hob : ∀ k o, (Hp wl L2).get k = some o → L2[k]? = some (some o) := by
    intro k o g
    rw [Hp_get] at g
    cases h : L2[k]? with
    | none => rw [h] at g; cases g
    | some x =>
      rw [h] at g
      have : x = some o := g
      rw [this]
  refine Gc.wk (σ := sgL σL) (ξ := xiL ξL) ⟨rfl, rfl, rfl, hb, hb2, fun k hk => ?_, fun k k' o o' g g' _ _ _ e => ?_, fun k o g _ hk => ?_, xiL_ok hroom, fun k hk => ?_, fun k o' g => ?_, fun d v' hd => ?_, hms⟩ hrd
  · refine ⟨?_, ?_⟩
    · have : (σL.take b)[k]? = (List.range b)[k]? := by rw [hlow]
      rw [List.getElem?_take_of_lt hk, List.getElem?_range hk] at this
      unfold sgL
      rw [this]; rfl
    · exact xiL_low (fun p hp => of_decide_eq_true (List.all_eq_true.1 hxi p hp)) hk
  · have h1 := (List.getElem?_eq_some_iff.1 (hob k o g)).1
    have h2 := (List.getElem?_eq_some_iff.1 (hob k' o' g')).1
    obtain ⟨s1, e1, e2⟩ := hget k h1
    obtain ⟨s2, e3, e4⟩ := hget k' h2
    rw [e2, e4] at e
    subst e
    exact (List.getElem?_inj (by omega) hnd).1 (e1.trans e3.symm)
  · have h1 := (List.getElem?_eq_some_iff.1 (hob k o g)).1
    obtain ⟨s1, e1, e2⟩ := hget k h1
    rw [e2]
    have hk' : wl ≤ k := hk
    have : s1 ∈ σL.drop wl := List.mem_of_getElem? (i := k - wl) (by rw [List.getElem?_drop, show wl + (k - wl) = k from by omega]; exact e1)
    have := List.all_eq_true.1 hhigh _ this
    exact of_decide_eq_true this
  · show (trL L2).get k = (trL L).get k
    have hk' : k < wl := hk
    rw [trL_get, trL_get]
    have : (L2.take wl)[k]? = (L.take wl)[k]? := by rw [keep]
    rw [List.getElem?_take_of_lt hk', List.getElem?_take_of_lt hk'] at this
    rw [this]
  · have h0 := objOK_at obj (hob k o' g)
    rw [Nat.zero_add] at h0
    rcases h0 with h0 | ⟨hx, o, h1, h2⟩
    · exact .inl h0
    · exact .inr ⟨hx, o, by rw [Hp_get]; exact h1, h2⟩
  · rw [trOf_get] at hd ⊢
    exact valOK_at val (lk_mem hd)

/-- Slots forgotten, on lists. -/
theorem Wk.same {nt b : Nat} {rd : Option Nat} {l l2 : Fr} {ms : List Nat} {h : AH} (hd : ∀ p ∈ l2, lk l p.1 = some p.2) : Wk nt b rd (trOf l) ms h (trOf l2) ms h :=
  Wk.drop fun d v e => by rw [trOf_get] at *; exact hd (d, v) (lk_mem e)
def subF (l : Fr) : Fr → Prop
  | [] => True
  | (d, v) :: r => lk l d = some v ∧ subF l r
theorem subF_at {l : Fr} : ∀ {l2 : Fr}, subF l l2 → ∀ p ∈ l2, lk l p.1 = some p.2
  | [], _, _, h => by cases h
  | (a, u) :: r, hk, p, h => by
    rcases List.mem_cons.1 h with h | h
    · rw [h]; exact hk.1
    · exact subF_at hk.2 p h
theorem Wk.sub {nt b : Nat} {rd : Option Nat} {l l2 : Fr} {ms : List Nat} {h : AH} (hd : subF l l2) : Wk nt b rd (trOf l) ms h (trOf l2) ms h := Wk.same (subF_at hd)

/-- A slice at a place: name, offset, or nil. -/
def rdV (p : Nat × Nat × Bool) (n c : Nat) : Value := if p.2.2 = true then .slice none n 0 else .slice (some ⟨p.1, p.2.1, none⟩) n c
/-- At the place stand these cells. -/
def RdAt (h : AH) (p : Nat × Nat × Bool) (n : Nat) (cs : List Value) : Prop :=
  h.sees p.1 = true ∧ if p.2.2 = true then n = 0 ∧ cs = [] else ∃ bl, h.get p.1 = some (.cells bl) ∧ cs <+: bl.cells.drop p.2.1 ∧ (cs = [] → p.2.1 ≤ bl.cells.length)
/-- In memory h the slice value v of n elements bears these cells. -/
def Rd (h : AH) (v : Value) (n : Nat) (cs : List Value) : Prop := ∃ p c, v = rdV p n c ∧ RdAt h p n cs ∧ (p.2.2 = true → c = 0)
theorem Rd.some {h : AH} {k o n c : Nat} {bl : Blk} {cs : List Value} (hg : h.get k = some (.cells bl)) (hp : cs <+: bl.cells.drop o) (h0 : cs = [] → o ≤ bl.cells.length) : Rd h (.slice (some ⟨k, o, none⟩) n c) n cs :=
  ⟨(k, o, false), c, rfl, ⟨get_sees hg, ⟨bl, hg, hp, h0⟩⟩, fun e => by cases e⟩
theorem Rd.whole {h : AH} {k n c sz : Nat} {op : Bool} {cs : List Value} (hg : h.get k = Option.some (.cells ⟨cs, sz, op⟩)) : Rd h (.slice (Option.some ⟨k, 0, none⟩) n c) n cs :=
  Rd.some hg ⟨[], by simp⟩ (fun _ => Nat.zero_le _)
theorem Rd.nil {h : AH} {n : Nat} {cs : List Value} (h0 : h.sees 0 = true) (hn : n = 0) (hc : cs = []) : Rd h (.slice none n 0) n cs :=
  ⟨(0, 0, true), 0, rfl, ⟨h0, hn, hc⟩, fun _ => rfl⟩

def psL (ψL : List (Nat × Nat × Bool)) (k : Nat) : Nat × Nat × Bool := (ψL[k]?).getD (0, 0, false)
def frAt (h : AH) (ψ : Nat → Nat × Nat × Bool) (B k : Nat) (o : AObj) : Prop := ((ψ k).2.2 = true ∧ nilO o) ∨ (¬ (ψ k).2.2 = true ∧ ∃ o1, h.get (ψ k).1 = some o1 ∧ OW ψ B k o1 o)
def frOK (h : AH) (ψ : Nat → Nat × Nat × Bool) (B : Nat) : Nat → List (Option AObj) → Prop
  | _, [] => True
  | k, x :: r => (h.sees (ψ k).1 = true ∧ ∀ o, x = some o → frAt h ψ B k o) ∧ frOK h ψ B (k + 1) r
theorem frOK_at {h : AH} {ψ : Nat → Nat × Nat × Bool} {B : Nat} : ∀ {L : List (Option AObj)} {i : Nat}, frOK h ψ B i L → ∀ {k : Nat} {x : Option AObj}, L[k]? = some x → h.sees (ψ (i + k)).1 = true ∧ ∀ o, x = some o → frAt h ψ B (i + k) o := by
  intro L
  induction L with
  | nil => intro i _ k x h; simp at h
  | cons y r ih =>
    intro i hk k x h
    obtain ⟨h1, h2⟩ := hk
    cases k with
    | zero =>
      simp only [List.getElem?_cons_zero, Option.some.injEq] at h
      subst h
      exact h1
    | succ k =>
      have := ih h2 (k := k) (by simpa using h)
      rw [show i + (k + 1) = i + 1 + k from by omega]
      exact this

/-- A contract on its own memory holds in whatever memory bears the same. -/
theorem Fc.frameL {P : Program} {f : Nat} {args args' : List Value} {Lc : List (Option AObj)} {v v' : Value} {os : List AObj} {h h' : AH} (F : Fc P f args (Hp Lc.length Lc) v (Hp Lc.length (Lc ++ os.map some))) (ψL : List (Nat × Nat × Bool))
    (hos : os.all plainO = true) (hobj : frOK h (psL ψL) Lc.length 0 Lc) (hargs : okML (xiP (psL ψL)) Lc.length args) (hv : okM (xiP (psi1 (psL ψL) Lc.length h.next)) (Lc.length + os.length) v) (hos2 : ∀ o ∈ os, okMO (xiP (psi1 (psL ψL) Lc.length h.next)) (Lc.length + os.length) o) (e1 : mwL (psL ψL) args = args') (e2 : mw (psi1 (psL ψL) Lc.length h.next) v = v') (e3 : h.news (os.map (mwO (psi1 (psL ψL) Lc.length h.next))) = h') : Fc P f args' h v' h' := by
  subst e1 e2 e3
  have eN : Hp Lc.length (Lc ++ os.map some) = (Hp Lc.length Lc).news os := (Hq_news os).symm
  rw [eN] at F
  refine Fc.frame F (psL ψL) rfl rfl hos (fun k o g => ?_) (fun k hk => ?_) hargs hv hos2
  · rw [Hp_get] at g
    cases hx : Lc[k]? with
    | none => rw [hx] at g; cases g
    | some x =>
      rw [hx] at g
      have g' : x = some o := g
      have := (frOK_at hobj hx).2 o g'
      rw [Nat.zero_add] at this
      exact this
  · have hx : Lc[k]? = some (Lc[k]'hk) := List.getElem?_eq_getElem hk
    have := (frOK_at hobj hx).1
    rw [Nat.zero_add] at this
    exact this

theorem fr_rd {h : AH} {ψ : Nat → Nat × Nat × Bool} {B i n : Nat} {p : Nat × Nat × Bool} {cs : List Value} (hψ : ψ i = p) (r : RdAt h p n cs) (hno : noAddrL cs = true) :
    h.sees (ψ i).1 = true ∧ ∀ ob, (some (.cells ⟨cs, 0, false⟩) : Option AObj) = some ob → frAt h ψ B i ob := by
  subst hψ
  obtain ⟨hs, hr⟩ := r
  refine ⟨hs, fun ob e => ?_⟩
  injection e with e
  subst e
  by_cases hn : (ψ i).2.2 = true
  · rw [if_pos hn] at hr
    exact .inl ⟨hn, hr.2⟩
  · rw [if_neg hn] at hr
    obtain ⟨bl, g1, g2, g3⟩ := hr
    refine .inr ⟨hn, _, g1, ?_⟩
    unfold OW
    simp only
    rw [mwL_noAddr _ _ hno]
    exact ⟨g2, g3, okML_noAddr _ _ _ hno, fun e => (by cases e), fun e => absurd rfl e⟩
theorem fr_none {h : AH} {ψ : Nat → Nat × Nat × Bool} {B i : Nat} (hs : h.sees (ψ i).1 = true) : h.sees (ψ i).1 = true ∧ ∀ ob, (none : Option AObj) = some ob → frAt h ψ B i ob := ⟨hs, fun _ e => by cases e⟩
theorem mw_sl {ψ : Nat → Nat × Nat × Bool} {i n c : Nat} {p : Nat × Nat × Bool} (hψ : ψ i = p) : mw ψ (.slice (some ⟨i, 0, none⟩) n c) = rdV p n c := by
  subst hψ
  simp only [mw, rdV, Nat.add_zero]
theorem okM_sl {ψ : Nat → Nat × Nat × Bool} {B i n c : Nat} {h : AH} {p : Nat × Nat × Bool} {cs : List Value} (hψ : ψ i = p) (hi : i < B) (r : RdAt h p n cs) (hc : p.2.2 = true → c = 0) : okM (xiP ψ) B (.slice (some ⟨i, 0, none⟩) n c) := by
  subst hψ
  simp only [okM]
  refine ⟨hi, ?_⟩
  by_cases hn : (ψ i).2.2 = true
  · rw [xiP_t hn]
    have hr := r.2
    rw [if_pos hn] at hr
    exact ⟨hr.1, .inl (hc hn)⟩
  · rw [xiP_f hn]; trivial
end Go.Vm

/- VnD: Walks on memory by names, fourth part: the equations by which simp reckons what a row of operations asks. -/
namespace Go.Vm
open Go Go.RowKit

/-- How many elements a slice has. -/
def lenV : Value → Option Nat
  | .slice _ n _ => some n
  | _ => none
theorem lenV_slice (a : Option Addr) (n c : Nat) : lenV (.slice a n c) = some n := rfl
theorem lenV_rdV (p : Nat × Nat × Bool) (n c : Nat) : lenV (rdV p n c) = some n := by unfold rdV; split <;> rfl
section
variable {P : Program} {w : Bool} {l : Fr} {h : AH} {K : Value → AH → Prop}
theorem iStep_mv (x : X) : iStep P w (.mv x) l h K = (match x.ev l with
    | some v => K v h
    | none => False) := rfl
theorem iStep_pick (c : X) (a : X) (b : X) : iStep P w (.pick c a b) l h K = (match c.ev l with
    | some (.bool t) => (t = true → match a.ev l with | some v => K v h | none => False) ∧ (t = false → match b.ev l with | some v => K v h | none => False)
    | _ => False) := rfl
theorem iStep_nilck (x : X) : iStep P w (.nilck x) l h K = (match x.ev l with
    | some v => notNil v = true ∧ K v h
    | none => False) := rfl
theorem iStep_add (x y : X) : iStep P false (.ar .add x y) l h K = (match x.ev l, y.ev l with
    | some (.int k a), some (.int k' b) => k = k' ∧ chk (inR k (a + b)) (K (.int k (a + b)) h)
    | _, _ => False) := rfl
theorem iStep_addw (x y : X) : iStep P true (.ar .add x y) l h K = (match x.ev l, y.ev l with
    | some (.int k a), some (.int k' b) => k = k' ∧ K (.int k (k.wrap (a + b))) h
    | _, _ => False) := rfl
theorem iStep_sub (x y : X) : iStep P false (.ar .sub x y) l h K = (match x.ev l, y.ev l with
    | some (.int k a), some (.int k' b) => k = k' ∧ chk (inR k (a - b)) (K (.int k (a - b)) h)
    | _, _ => False) := rfl
theorem iStep_subw (x y : X) : iStep P true (.ar .sub x y) l h K = (match x.ev l, y.ev l with
    | some (.int k a), some (.int k' b) => k = k' ∧ K (.int k (k.wrap (a - b))) h
    | _, _ => False) := rfl
theorem iStep_mul (x y : X) : iStep P false (.ar .mul x y) l h K = (match x.ev l, y.ev l with
    | some (.int k a), some (.int k' b) => k = k' ∧ chk (inR k (a * b)) (K (.int k (a * b)) h)
    | _, _ => False) := rfl
theorem iStep_mulw (x y : X) : iStep P true (.ar .mul x y) l h K = (match x.ev l, y.ev l with
    | some (.int k a), some (.int k' b) => k = k' ∧ K (.int k (k.wrap (a * b))) h
    | _, _ => False) := rfl
theorem iStep_eql (x y : X) : iStep P w (.cmp .eql x y) l h K = (match x.ev l, y.ev l with
    | some (.int k a), some (.int k' b) => k = k' ∧ K (.bool (decide (a = b))) h
    | _, _ => False) := rfl
theorem iStep_neq (x y : X) : iStep P w (.cmp .neq x y) l h K = (match x.ev l, y.ev l with
    | some (.int k a), some (.int k' b) => k = k' ∧ K (.bool (!decide (a = b))) h
    | _, _ => False) := rfl
theorem iStep_lss (x y : X) : iStep P w (.cmp .lss x y) l h K = (match x.ev l, y.ev l with
    | some (.int k a), some (.int k' b) => k = k' ∧ K (.bool (decide (a < b))) h
    | _, _ => False) := rfl
theorem iStep_leq (x y : X) : iStep P w (.cmp .leq x y) l h K = (match x.ev l, y.ev l with
    | some (.int k a), some (.int k' b) => k = k' ∧ K (.bool (decide (a ≤ b))) h
    | _, _ => False) := rfl
theorem iStep_gtr (x y : X) : iStep P w (.cmp .gtr x y) l h K = (match x.ev l, y.ev l with
    | some (.int k a), some (.int k' b) => k = k' ∧ K (.bool (decide (b < a))) h
    | _, _ => False) := rfl
theorem iStep_geq (x y : X) : iStep P w (.cmp .geq x y) l h K = (match x.ev l, y.ev l with
    | some (.int k a), some (.int k' b) => k = k' ∧ K (.bool (decide (b ≤ a))) h
    | _, _ => False) := rfl
theorem iStep_cmpb (neg : Bool) (x : X) (y : X) : iStep P w (.cmpb neg x y) l h K = (match x.ev l, y.ev l with
    | some (.bool a), some (.bool b) => K (.bool (if neg then a != b else a == b)) h
    | _, _ => False) := rfl
theorem iStep_eqs (neg : Bool) (ks : List Bool) (x : X) (y : X) : iStep P w (.eqs neg ks x y) l h K = (match x.ev l, y.ev l with
    | some (.agg a), some (.agg b) => match cellsEq ks a.toList b.toList with | some r => K (.bool (if neg then !r else r)) h | none => False
    | _, _ => False) := rfl
theorem iStep_div (op : BinOp) (x : X) (y : X) : iStep P w (.div op x y) l h K = (match x.ev l, y.ev l with
    | some (.int k a), some (.int k' b) => k = k' ∧ chk (b ≠ 0) (chk (inR k (dvI op a b)) (K (.int k (dvI op a b)) h))
    | _, _ => False) := rfl
theorem iStep_bits (op : BinOp) (x : X) (y : X) : iStep P w (.bits op x y) l h K = (match x.ev l, y.ev l with
    | some (.int k a), some (.int k' b) => k = k' ∧ K (.int k (btI op k a b)) h
    | _, _ => False) := rfl
theorem iStep_shf (op : BinOp) (x : X) (y : X) : iStep P w (.shf op x y) l h K = (match x.ev l, y.ev l with
    | some (.int k a), some (.int _ b) => chk (0 ≤ b) (K (.int k (shI op k a b)) h)
    | _, _ => False) := rfl
theorem iStep_not (x : X) : iStep P w (.not x) l h K = (match x.ev l with
    | some (.bool b) => K (.bool !b) h
    | _ => False) := rfl
theorem iStep_neg (x : X) : iStep P w (.neg x) l h K = (match x.ev l with
    | some (.int k a) => chk (inR k (-a)) (K (.int k (-a)) h)
    | _ => False) := rfl
theorem iStep_conv (k : IntKind) (x : X) : iStep P false (.conv k x) l h K = (match x.ev l with
    | some (.int _ a) => chk (inR k a) (K (.int k a) h)
    | _ => False) := rfl
theorem iStep_convw (k : IntKind) (x : X) : iStep P true (.conv k x) l h K = (match x.ev l with
    | some (.int _ a) => K (.int k (k.wrap a)) h
    | _ => False) := rfl
theorem iStep_fad (off : Nat) (x : X) : iStep P w (.fad off x) l h K = (match x.ev l with
    | some (.pointer (some ⟨k, o, none⟩)) => K (.pointer (some ⟨k, addOff o off, none⟩)) h
    | _ => False) := rfl
theorem iStep_iad (sz : Nat) (x : X) (i : X) : iStep P w (.iad sz x i) l h K = (match x.ev l, i.ev l with
    | some (.slice (some ⟨k, o, none⟩) n _), some (.int _ j) => chk (0 ≤ j ∧ j < (n : Int)) (K (.pointer (some ⟨k, o + j.toNat * sz, none⟩)) h)
    | _, _ => False) := rfl
theorem iStep_iada (n : Nat) (sz : Nat) (x : X) (i : X) : iStep P w (.iada n sz x i) l h K = (match x.ev l, i.ev l with
    | some (.pointer (some ⟨k, o, none⟩)), some (.int _ j) => chk (0 ≤ j ∧ j < (n : Int)) (K (.pointer (some ⟨k, o + j.toNat * sz, none⟩)) h)
    | _, _ => False) := rfl
theorem iStep_ldc (x : X) : iStep P w (.ldc x) l h K = (match x.ev l with
    | some (.pointer (some ⟨k, o, none⟩)) => match cellAt h k o with | some v => K v h | none => False
    | _ => False) := rfl
theorem iStep_lda (n : Nat) (x : X) : iStep P w (.lda n x) l h K = (match x.ev l with
    | some (.pointer (some ⟨k, o, none⟩)) => match cellsAt h k o n with | some vs => K (.agg ⟨vs⟩) h | none => False
    | _ => False) := rfl
theorem iStep_st (n : Nat) (x : X) (v : X) : iStep P w (.st n x v) l h K = (match x.ev l, v.ev l with
    | some (.pointer (some ⟨k, o, none⟩)), some v => chk (v.cells.size = n ∧ o + n ≤ lenAt h k ∧ h.wlim ≤ k) (v.cells.toList.all Value.oneCell' = true ∧ match stAt h k o v.cells.toList with | some h' => K undef h' | none => False)
    | _, _ => False) := rfl
theorem iStep_box (x : X) : iStep P w (.box x) l h K = (match x.ev l with
    | some v => K (pt h.next) (h.new (.cells ⟨v.cells.toList, 1, false⟩))
    | none => False) := rfl
theorem iStep_alloc (z : List Value) : iStep P w (.alloc z) l h K = (K (pt h.next) (h.new (.cells ⟨z, 1, false⟩))) := rfl
theorem iStep_ext (x : X) (i : Nat) : iStep P w (.ext x i) l h K = (match x.ev l with
    | some (.tuple vs) => match vs[i]? with | some v => K v h | none => False
    | _ => False) := rfl
theorem iStep_fldc (off : Nat) (x : X) : iStep P w (.fldc off x) l h K = (match x.ev l with
    | some (.agg cs) => match cs[off]? with | some v => K v h | none => False
    | _ => False) := rfl
theorem iStep_flda (off : Nat) (n : Nat) (x : X) : iStep P w (.flda off n x) l h K = (match x.ev l with
    | some (.agg cs) => K (.agg (cs.extract off (off + n))) h
    | _ => False) := rfl
theorem iStep_bld (z : List Value) (ps : List (Nat × Nat × X)) : iStep P w (.bld z ps) l h K = (match evP l ps with
    | some vs => match fillC z vs with | some cs => K (.agg ⟨cs⟩) h | none => False
    | none => False) := rfl
theorem iStep_bsl (sz : Nat) (len : Nat) (z : List Value) (ps : List (Nat × X)) : iStep P w (.bsl sz len z ps) l h K = (match evB l sz ps with
    | some vs => match fillC z vs with | some cs => K (.slice (some ⟨h.next, 0, none⟩) len len) (h.new (.cells ⟨cs, sz, false⟩)) | none => False
    | none => False) := rfl
theorem iStep_len (x : X) : iStep P w (.len x) l h K = (match x.ev l with
    | some v => match lenV v with
      | some n => K (.int .i64 n) h
      | none => False
    | none => False) := by
  simp only [iStep]
  cases hx : x.ev l with
  | none => rfl
  | some v => cases v <;> rfl
theorem iStep_mm (lt : Bool) (xs : List X) : iStep P w (.mm lt xs) l h K = (match evs l xs with
    | some (.int k a :: vs) => match intsOf k vs with | some r => K (.int k (mmI lt a r)) h | none => False
    | _ => False) := rfl
theorem iStep_mkf (f : FuncId) (first : List X) (captured : List X) : iStep P w (.mkf f first captured) l h K = (match evs l first, evs l captured with
    | some a, some c => K (.func (.func f) ⟨a⟩ ⟨c⟩) h
    | _, _ => False) := rfl
theorem iStep_mks (sz : Nat) (z : List Value) (n : X) (c : X) : iStep P w (.mks sz z n c) l h K = (match n.ev l, c.ev l with
    | some (.int _ n), some (.int _ c) => chk (0 ≤ n ∧ n ≤ c ∧ c ≤ 16777216) (K (.slice (some ⟨h.next, 0, none⟩) n.toNat c.toNat) (h.new (.cells ⟨(List.replicate c.toNat z).flatten, sz, false⟩)))
    | _, _ => False) := rfl
theorem iStep_call (f : X) (args : List X) : iStep P w (.call f args) l h K = (match f.ev l, evs l args with
    | some (.func (.func g) first captured), some vs => ∃ v h', Fc P g (first.toList ++ vs ++ captured.toList) h v h' ∧ K v h'
    | some (.func (.yield k) first _), some vs => h.sees k = true ∧ ∃ v h', Yl P k (first.toList ++ vs) h v h' ∧ K v h'
    | _, _ => False) := rfl
theorem iStep_app (sz : Nat) (bytes : Nat) (x : X) (y : X) : iStep P w (.app sz bytes x y) l h K = (match x.ev l, y.ev l with
    | some s, some e => appK h sz bytes s e K
    | _, _ => False) := rfl
theorem iStep_gen_bin (op : BinOp) (t u : TypeId) (x y : Operand) : iStep P w (.gen (.binOp op t x y u)) l h K = ∃ v h', aOp P h (aEnv (trOf l)) (.binOp op t x y u) = some (v, h') ∧ K v h' := rfl
end
section
variable {P : Program} {l : Fr} {h : AH} {K : Fr → AH → Prop} {d : Option Nat} {w : Bool} {i : I} {r : List IOp}
theorem iRow_nil : iRow P [] l h K = K l h := rfl
theorem iRow_none : iRow P (⟨d, none, w, i⟩ :: r) l h K = iStep P w i l h fun v h' => iRow P r (putF d v l) h' K := rfl
theorem iRow_on {g : Nat} {b : Bool} (hl : lk l g = some (.bool b)) : iRow P (⟨d, some (g, b), w, i⟩ :: r) l h K = iStep P w i l h fun v h' => iRow P r (putF d v l) h' K := by
  rw [iRow]; simp [hl]
theorem iRow_off {g : Nat} {b : Bool} (hl : lk l g = some (.bool !b)) : iRow P (⟨d, some (g, b), w, i⟩ :: r) l h K = iRow P r (putF d undef l) h K := by
  rw [iRow]; simp only [hl]; cases b <;> simp
theorem iRow_un {g : Nat} {b : Bool} (hl : lk l g = some (.tuple #[])) : iRow P (⟨d, some (g, b), w, i⟩ :: r) l h K = iRow P r (putF d undef l) h K := by
  rw [iRow]; simp only [hl]
variable {n m : Nat} {news : List (Nat × Nat × Nat)} {s : List (IOp × Bool × Nat × Nat)}
theorem iDraw_nil : iDraw P n [] l h news K = K l h := rfl
variable {c : Nat} {KD : Value → AH → List (Nat × Nat × Nat) → Prop}
theorem dStep_0 : dStep P n m 0 w i l h news KD = iStep P w i l h fun v _ => KD v h news := if_pos rfl
def isSt : I → Bool
  | .st .. => true
  | .app .. => true
  | _ => false
theorem dStep_k (hc : Nat.beq c 0 = false) (hi : stN l i = none) (hk : killN l (lviewM h m news) i = none) : dStep P n m c w i l h news KD = (wOKm m news = true ∧ iStep P w i l (viewM h m news) fun v h' => KD v (back h h') (addNews n h.next h'.next news)) := by
  unfold dStep
  rw [if_neg (fun e => by subst e; cases hc), hi]
  simp only [hk]
theorem dStep_n (hc : Nat.beq c 0 = false) (hi : isSt i = false) : dStep P n m c w i l h news KD = (wOKm m news = true ∧ iStep P w i l (viewM h m news) fun v h' => KD v (back h h') (addNews n h.next h'.next news)) := by
  exact dStep_k hc (by cases i <;> first | rfl | cases hi) (by cases i <;> first | rfl | cases hi)
/-- An append to a slice that is nil, or closed, or of nothing. -/
theorem dStep_an {sz bytes nn c0 : Nat} {x y : X} (hc : Nat.beq c 0 = false) (hx : x.ev l = some (.slice none nn c0)) : dStep P n m c w (.app sz bytes x y) l h news KD = (wOKm m news = true ∧ iStep P w (.app sz bytes x y) l (viewM h m news) fun v h' => KD v (back h h') (addNews n h.next h'.next news)) :=
  dStep_k hc rfl (by simp only [killN, hx])
theorem dStep_ac {sz bytes nn c0 : Nat} {a : Option Addr} {x y : X} (hc : Nat.beq c 0 = false) (hx : x.ev l = some (.slice a nn c0)) (hcc : c0 < openB) : dStep P n m c w (.app sz bytes x y) l h news KD = (wOKm m news = true ∧ iStep P w (.app sz bytes x y) l (viewM h m news) fun v h' => KD v (back h h') (addNews n h.next h'.next news)) := by
  refine dStep_k hc rfl ?_
  simp only [killN, hx]
  split
  · rename_i h1 _
    injection h1 with h1
    injection h1 with _ _ h1
    subst h1
    rw [if_neg (fun h => by omega)]
  · rfl
theorem dStep_a0 {sz bytes nn : Nat} {a : Option Addr} {x y : X} (hc : Nat.beq c 0 = false) (hx : x.ev l = some (.slice a nn 0)) : dStep P n m c w (.app sz bytes x y) l h news KD = (wOKm m news = true ∧ iStep P w (.app sz bytes x y) l (viewM h m news) fun v h' => KD v (back h h') (addNews n h.next h'.next news)) :=
  dStep_ac hc hx (by unfold openB; omega)
theorem dStep_az {sz bytes c2 : Nat} {a2 : Option Addr} {x y : X} (hc : Nat.beq c 0 = false) (hy : y.ev l = some (.slice a2 0 c2)) : dStep P n m c w (.app sz bytes x y) l h news KD = (wOKm m news = true ∧ iStep P w (.app sz bytes x y) l (viewM h m news) fun v h' => KD v (back h h') (addNews n h.next h'.next news)) := by
  refine dStep_k hc rfl ?_
  simp only [killN, hy]
  split
  · rename_i h1
    injection h1 with h1
    subst h1
    rw [if_neg (fun h => h.2 rfl)]
  · rfl
/-- An append to an open row of before: its name is dead behind it. -/
theorem dStep_ak {sz bytes nn k ne c2 wl sz' : Nat} {hid : List (Nat × Nat)} {L : List (Option AObj)} {a2 : Option Addr} {x y : X} {old : List Value} {op : Bool} (hc : Nat.beq c 0 = false) (hx : x.ev l = some (.slice (some ⟨k, 0, none⟩) nn openB)) (hy : y.ev l = some (.slice a2 ne c2)) (hne : ne ≠ 0) (hf : freeOf (hid ++ hidL m news) k = true) (hL : (L[k]?).join = some (AObj.cells ⟨old, sz', op⟩)) (hl : old.length = nn * sz') :
    dStep P n m c w (.app sz bytes x y) l (Hq wl hid L) news KD = (wOKm m news = true ∧ oldName k news = true ∧ iStep P w (.app sz bytes x y) l (Hq wl (hid ++ hidL m news) L) fun v h' => h'.next = L.length + 1 ∧ KD v (backl (Hq wl hid L) h') (addNews n L.length h'.next news)) := by
  have hk : killN l (lviewM (Hq wl hid L) m news) (.app sz bytes x y) = some k := by
    simp only [killN, hx, hy]
    rw [if_pos ⟨Nat.le_refl _, hne⟩, Hq_lview, free_get hf, hL]
    simp only
    rw [if_pos (by omega)]
  unfold dStep
  rw [if_neg (fun e => by subst e; cases hc)]
  have : stN l (.app sz bytes x y) = none := rfl
  rw [this]
  simp only [hk]
  rw [Hq_lview]
  rfl
theorem dStep_s {sz k o : Nat} {sp : Option Nat} {x v : X} (hc : Nat.beq c 0 = false) (hx : x.ev l = some (.pointer (some ⟨k, o, sp⟩))) : dStep P n m c w (.st sz x v) l h news KD = (wOKm m news = true ∧ locOKm m (c - 1) k news = true ∧ iStep P w (.st sz x v) l (lviewM h m news) fun v h' => KD v (backl h h') ((n, k + 1, k) :: news)) := by
  unfold dStep
  rw [if_neg (fun e => by subst e; cases hc)]
  have : stN l (.st sz x v) = some k := by simp only [stN, hx]
  rw [this]
  rfl
theorem barOK_0 {l : Fr} {i : I} : barOK l i 0 = True := eq_true (.inl rfl)
theorem iDraw_bar : iDraw P n ((⟨d, none, w, i⟩, true, m, 0) :: s) l h news K = iStep P w i l h fun v h' => iDraw P (n + 1) s (putF d v l) h' [] K := by
  rw [iDraw]; simp only [if_true, barOK_0, true_and]
theorem iDraw_barS (hc : Nat.beq c 0 = false) (hs : softB l i c = true) : iDraw P n ((⟨d, none, w, i⟩, true, m, c) :: s) l h news K = iStep P w i l h fun v h' => iDraw P (n + 1) s (putF d v l) h' [] K := by
  have : c ≠ 0 := fun e => by rw [e] at hc; cases hc
  rw [iDraw]; simp only [if_true, barOK, this, false_or, hs, true_and]
theorem iDraw_none : iDraw P n ((⟨d, none, w, i⟩, false, m, c) :: s) l h news K = dStep P n m c w i l h news fun v h' nw => iDraw P (n + 1) s (putF d v l) h' nw K := rfl
theorem iDraw_baron {g : Nat} {b : Bool} (hl : lk l g = some (.bool b)) : iDraw P n ((⟨d, some (g, b), w, i⟩, true, m, 0) :: s) l h news K = iStep P w i l h fun v h' => iDraw P (n + 1) s (putF d v l) h' [] K := by
  rw [iDraw]; simp [hl, barOK_0]
theorem iDraw_on {g : Nat} {b : Bool} (hl : lk l g = some (.bool b)) : iDraw P n ((⟨d, some (g, b), w, i⟩, false, m, c) :: s) l h news K = dStep P n m c w i l h news fun v h' nw => iDraw P (n + 1) s (putF d v l) h' nw K := by
  rw [iDraw]; simp [hl]
theorem iDraw_off {g : Nat} {b bar : Bool} (hl : lk l g = some (.bool !b)) : iDraw P n ((⟨d, some (g, b), w, i⟩, bar, m, c) :: s) l h news K = iDraw P (n + 1) s (putF d undef l) h news K := by
  rw [iDraw]; simp only [hl]; cases b <;> simp
theorem iDraw_un {g : Nat} {b bar : Bool} (hl : lk l g = some (.tuple #[])) : iDraw P n ((⟨d, some (g, b), w, i⟩, bar, m, c) :: s) l h news K = iDraw P (n + 1) s (putF d undef l) h news K := by
  rw [iDraw]; simp only [hl]
theorem putF_some (d : Nat) (v : Value) (l : Fr) : putF (some d) v l = (d, v) :: l := rfl
theorem putF_none (v : Value) (l : Fr) : putF none v l = l := rfl
theorem ev_t (n : Nat) : X.ev l (.t n) = lk l n := rfl
theorem ev_k (v : Value) : X.ev l (.k v) = some v := rfl
theorem ev_f (n : FuncId) : X.ev l (.f n) = some (.func (.func n) #[] #[]) := rfl
theorem lk_hit (d : Nat) (v : Value) (r : Fr) : lk ((d, v) :: r) d = some v := if_pos rfl
theorem lk_miss {d n : Nat} (h : Nat.beq d n = false) (v : Value) (r : Fr) : lk ((d, v) :: r) n = lk r n := if_neg (fun e => by subst e; rw [Nat.beq_refl] at h; cases h)
theorem lk_nil (n : Nat) : lk [] n = none := rfl
theorem inR_i64 (n : Int) : inR .i64 n = (-9223372036854775808 ≤ n ∧ n ≤ 9223372036854775807) := rfl
theorem inR_u64 (n : Int) : inR .u64 n = (0 ≤ n ∧ n ≤ 18446744073709551615) := rfl
theorem inR_u8 (n : Int) : inR .u8 n = (0 ≤ n ∧ n ≤ 255) := rfl
theorem inR_i32 (n : Int) : inR .i32 n = (-2147483648 ≤ n ∧ n ≤ 2147483647) := rfl
theorem addOff_0 (o : Nat) : addOff o 0 = o := rfl
theorem addOff_s (o n : Nat) : addOff o (n + 1) = o + (n + 1) := rfl
theorem liveF_some (ds : List Nat) : liveF (some ds) l = keepF ds l := rfl
theorem keepF_nil : keepF [] l = [] := rfl
def keepM (d : Nat) (x : Option Value) (r : Fr) : Fr := match x with | some v => (d, v) :: r | none => r
theorem keepM_some (d : Nat) (v : Value) (r : Fr) : keepM d (some v) r = (d, v) :: r := rfl
theorem keepM_none (d : Nat) (r : Fr) : keepM d none r = r := rfl
theorem keepF_cons (d : Nat) (ds : List Nat) : keepF (d :: ds) l = keepM d (lk l d) (keepF ds l) := by simp only [keepF, keepM]; try (cases lk l d <;> rfl)
theorem mmI_nil (lt : Bool) (a : Int) : mmI lt a [] = a := rfl
theorem mmI_min (a b : Int) (r : List Int) : mmI true a (b :: r) = mmI true (min a b) r := rfl
theorem mmI_max (a b : Int) (r : List Int) : mmI false a (b :: r) = mmI false (max a b) r := rfl
theorem addNews_same (i a : Nat) : addNews i a a news = news := if_neg (Nat.lt_irrefl a)
end
/- cells of blocks -/
section
variable {wl : Nat} {hid : List (Nat × Nat)} {L : List (Option AObj)} {k o n : Nat}
def getC (x : Option AObj) (o : Nat) : Option Value := match x with
  | some (.cells b) => b.cells[o]?
  | _ => none
def takeC (cs : List Value) (o n : Nat) : Option (List Value) := if o + n ≤ cs.length then some ((cs.drop o).take n) else none
def getCs (x : Option AObj) (o n : Nat) : Option (List Value) := match x with
  | some (.cells b) => takeC b.cells o n
  | _ => none
def lenC (x : Option AObj) : Nat := match x with
  | some (.cells b) => b.cells.length
  | _ => 0
def setC (wl : Nat) (hid : List (Nat × Nat)) (L : List (Option AObj)) (k : Nat) (x : Option AObj) (o : Nat) (vs : List Value) : Option AH := match x with
  | some (.cells b) => if b.esz = 0 then none else some (Hq wl hid (L.set k (some (.cells ⟨writeAt b.cells o vs, b.esz, b.opn⟩))))
  | _ => none
theorem cellAt_H : cellAt (Hq wl [] L) k o = getC (L[k]?).join o := by unfold cellAt; rw [Hp_get]; rfl
theorem cellsAt_H : cellsAt (Hq wl [] L) k o n = getCs (L[k]?).join o n := by unfold cellsAt; rw [Hp_get]; rfl
theorem lenAt_H : lenAt (Hq wl [] L) k = lenC (L[k]?).join := by unfold lenAt; rw [Hp_get]; rfl
theorem stAt_H (vs : List Value) : stAt (Hq wl [] L) k o vs = setC wl [] L k (L[k]?).join o vs := by
  unfold stAt
  rw [Hp_get]
  cases h : (L[k]?).join with
  | none => rfl
  | some x =>
    cases x with
    | cells b =>
      have hk : k < L.length := by
        rcases Nat.lt_or_ge k L.length with h1 | h1
        · exact h1
        · rw [List.getElem?_eq_none h1] at h; cases h
      simp only [setC]
      rw [Hq_put k _ hk]
    | _ => rfl
theorem cellAt_F {hid : List (Nat × Nat)} (h : freeOf hid k = true) : cellAt (Hq wl hid L) k o = getC (L[k]?).join o := by unfold cellAt; rw [free_get h]; rfl
theorem cellsAt_F {hid : List (Nat × Nat)} (h : freeOf hid k = true) : cellsAt (Hq wl hid L) k o n = getCs (L[k]?).join o n := by unfold cellsAt; rw [free_get h]; rfl
theorem lenAt_F {hid : List (Nat × Nat)} (h : freeOf hid k = true) : lenAt (Hq wl hid L) k = lenC (L[k]?).join := by unfold lenAt; rw [free_get h]; rfl
theorem stAt_F {hid : List (Nat × Nat)} (hf : freeOf hid k = true) (vs : List Value) : stAt (Hq wl hid L) k o vs = setC wl hid L k (L[k]?).join o vs := by
  unfold stAt
  rw [free_get hf]
  cases h : (L[k]?).join with
  | none => rfl
  | some x =>
    cases x with
    | cells b =>
      have hk : k < L.length := by
        rcases Nat.lt_or_ge k L.length with h1 | h1
        · exact h1
        · rw [List.getElem?_eq_none h1] at h; cases h
      simp only [setC]
      rw [Hq_put k _ hk]
    | _ => rfl
theorem getC_cells (cs : List Value) (sz o : Nat) (op : Bool) : getC (some (.cells ⟨cs, sz, op⟩)) o = cs[o]? := rfl
theorem getCs_cells (cs : List Value) (sz o n : Nat) (op : Bool) : getCs (some (.cells ⟨cs, sz, op⟩)) o n = takeC cs o n := rfl
theorem lenC_cells (cs : List Value) (sz : Nat) (op : Bool) : lenC (some (.cells ⟨cs, sz, op⟩)) = cs.length := rfl
theorem setC_cells (cs : List Value) (sz o : Nat) (op : Bool) (vs : List Value) : setC wl hid L k (some (.cells ⟨cs, sz + 1, op⟩)) o vs = some (Hq wl hid (L.set k (some (.cells ⟨writeAt cs o vs, sz + 1, op⟩)))) := rfl
theorem setC_cells' (cs : List Value) (sz o : Nat) (op : Bool) (vs : List Value) (h : sz ≠ 0) : setC wl hid L k (some (.cells ⟨cs, sz, op⟩)) o vs = some (Hq wl hid (L.set k (some (.cells ⟨writeAt cs o vs, sz, op⟩)))) := if_neg h
theorem get_H : (Hq wl [] L).get k = (L[k]?).join := Hp_get k
/- small lists of cells -/
theorem takeC_0 (cs : List Value) (n : Nat) (h : cs.length = n) : takeC cs 0 n = some cs := by unfold takeC; subst h; simp
theorem takeC_eq (cs : List Value) (o n : Nat) (h : o + n ≤ cs.length) : takeC cs o n = some ((cs.drop o).take n) := if_pos h
theorem writeAt_def (cs vs : List Value) (o : Nat) : writeAt cs o vs = cs.take o ++ vs ++ cs.drop (o + vs.length) := rfl
theorem writeAt_0 (cs vs : List Value) (h : cs.length = vs.length) : writeAt cs 0 vs = vs := by unfold writeAt; rw [Nat.zero_add, ← h]; simp
theorem rows_takeC {α : Type} {f : α → List Value} {c : Nat} [F : FlatE f c] [Inhabited α] {xs : List α} {i : Nat} (hi : i < xs.length) : takeC (rows f xs) (i * c) c = some (f (nth xs i)) := by
  rw [takeC_eq, rows_slice hi]
  rw [rows_len]
  have : (i + 1) * c ≤ xs.length * c := Nat.mul_le_mul_right _ hi
  rw [Nat.succ_mul] at this
  exact this
theorem rows_get0 {α : Type} {f : α → List Value} {c : Nat} [F : FlatE f c] [Inhabited α] {xs : List α} {i : Nat} (hi : i < xs.length) (hc : 0 < c) : (rows f xs)[i * c]? = (f (nth xs i))[0]? := by
  have := rows_get (f := f) (j := 0) hi hc
  rwa [Nat.add_zero] at this
theorem rows_get1 {α : Type} {f : α → List Value} [F : FlatE f 1] [Inhabited α] {xs : List α} {i : Nat} (hi : i < xs.length) : (rows f xs)[i]? = (f (nth xs i))[0]? := by
  have := rows_get (f := f) (j := 0) hi (by omega : 0 < 1)
  rwa [Nat.add_zero, Nat.mul_one] at this
theorem rows_takeC1 {α : Type} {f : α → List Value} [F : FlatE f 1] [Inhabited α] {xs : List α} {i : Nat} (hi : i < xs.length) : takeC (rows f xs) i 1 = some (f (nth xs i)) := by
  have := rows_takeC (f := f) hi
  rwa [Nat.mul_one] at this
end
end Go.Vm

/- VnE: Walks on memory by names, fifth part: contracts of functions that leave what they were given as it is. -/
namespace Go.Vm
open Go Go.RowKit

/-- What a program's function is. -/
structure FnIs (P : Program) (f : Nat) (ic : IC) (nt : Nat) (rs : List ResultVar) : Prop where
  ex : ∃ fn body, P.funcs[f]? = some fn ∧ fn.body = some body ∧ fn.ntmps = nt ∧ fn.results.toList = rs ∧ rC P nt body = some ic.er

/-- How a function ends that makes the objects os and returns v: n names lie below. -/
structure EndR (P : Program) (rs : List ResultVar) (n : Nat) (os : List AObj) (v : Value) (e : AEx) (l : Fr) (ms : List Nat) (h1 : AH) : Prop where
  exit : ∀ id, e ≠ .exit id
  ms : ms = []
  fin : ∃ (vs : List Value) (σL : List Nat) (ξL : List (Nat × Xi)), resF P l h1 rs = some vs ∧ σL.length = os.length ∧ σL.Nodup ∧ (∀ s ∈ σL, n ≤ s) ∧ (∀ p ∈ ξL, n ≤ p.1 ∧ p.2.ok) ∧
    packV vs = mv (fun k => if k < n then k else σL.getD (k - n) 0) (xiL ξL) v ∧ okM (xiL ξL) (n + os.length) v ∧
    ∀ i o2, os[i]? = some o2 → (xiL ξL (n + i) = .nil ∧ nilO o2) ∨ (xiL ξL (n + i) ≠ .nil ∧ ∃ o, h1.get (σL.getD i 0) = some o ∧ OM (fun k => if k < n then k else σL.getD (k - n) 0) (xiL ξL) (n + os.length) (n + i) o o2)

theorem EndR.plain {P : Program} {rs : List ResultVar} {n : Nat} {v : Value} {e : AEx} {l : Fr} {h1 : AH} {vs : List Value} (he : ∀ id, e ≠ .exit id) (hr : resF P l h1 rs = some vs) (hv : packV vs = v) (hn : noAddr v = true) : EndR P rs n [] v e l [] h1 :=
  ⟨he, rfl, vs, [], [], hr, rfl, List.nodup_nil, by simp, by simp, by rw [hv, mv_noAddr _ _ _ hn], okM_noAddr _ _ _ hn, fun i o2 h => by simp at h⟩

theorem Fc.introR {P : Program} {f nt : Nat} {ic : IC} {rs : List ResultVar} {args : List Value} {h : AH} {os : List AObj} {v : Value} (F : FnIs P f ic nt rs) (hl : args.length ≤ nt) (hid : h.hid = []) (hw : h.wlim = h.next)
    (T : ITri P nt none h.next ic (argF 0 args) [] h (EndR P rs h.next os v)) : Fc P f args h v (h.news os) := by
  obtain ⟨fn, body, hf, hb, hnt, hrs, hic⟩ := F.ex
  subst hnt hrs
  refine ⟨fun hw => news_grow hw _, ⟨fn, body, hf, hb⟩, fun w0 φ κ w R ha => ?_⟩
  refine callsIn_wide.1 (callsIn_of_wp_marks (F := Fence.wide) (n := 0) hf hb trivial ?_ rfl)
  have A0 : ARel φ κ h.N fn.ntmps (trOf (argF 0 args)) [] { tmps := (args.map (ren φ κ)).toArray ++ Array.replicate (fn.ntmps - (args.map (ren φ κ)).toArray.size) undef, defers := [] } := by
    refine ⟨rfl, by simp; omega, fun d v hd => ?_, fun d v hd => ?_⟩
    · rw [trOf_get, argF_get] at hd
      split at hd
      · rename_i hlt
        rw [Array.getElem?_append_left (by simp; omega)]
        rw [Nat.sub_zero] at hd
        simp [hd]
      · cases hd
    · rw [trOf_get, argF_get] at hd
      split at hd
      · exact ha _ (List.mem_of_getElem? hd)
      · cases hd
  have R0 : Rel w φ κ h w := ⟨Below.refl _ _, R.hid, R.wl, R.ent, fun k o g _ hk => (by have := sees_lt (get_sees g); omega), R.inj⟩
  refine T body (.inl hic) _ none w φ κ w _ (Nat.le_refl _) R0 trivial (fun m hm => by cases hm) A0 ?_
  rintro e t' ms' h1 φ1 κ1 w1 a1 ⟨l', rfl, q0, rfl, vs, σL, ξL, q2, q3, q4, q5, q6, q7, q8, q9⟩ S D1 M1 A1
  have hfin : LeavesInM Fence.wide 0 P fn a1.tmps (fun e w' => ∃ φ' κ', e = .returned (ren φ' κ' v) ∧ Step w0 φ κ h φ' κ' (h.news os) w' ∧ okV (h.news os).N κ' v) a1.defers .returning w1 := by
    have hds : a1.defers = [] := A1.defers
    rw [hds]
    obtain ⟨r1, r2⟩ := results_sound (P := P) (fn := fn) (l := vs) A1 S.rel (by rw [resF_eq]; exact q2)
    refine ⟨_, r1, ?_⟩
    let σ : Nat → Nat := fun k => if k < h.next then k else σL.getD (k - h.next) 0
    have hroom : ∀ k, (xiL ξL k).ok := xiL_ok fun p hp => (q6 p hp).2
    have hlow : ∀ k, k < h.next → xiL ξL k = .same := fun k hk => xiL_low (fun p hp => (q6 p hp).1) hk
    let φ3 : Nat → Nat × Nat := fun k => if k < h.next + os.length then phi2 φ1 σ (xiL ξL) k else φ k
    let κ3 : Nat → Nat := fun k => if k < h.next + os.length then kap2 κ1 σ (xiL ξL) k else κ k
    have hnx : (h.news os).next = h.next + os.length := news_next _ _
    have hN : ∀ k, k < h.next + os.length → (h.news os).N k := fun k hk => by
      show AH.sees _ _ = true
      unfold AH.sees
      rw [news_hid, hid, hnx]
      simpa using hk
    have hag : ∀ k, (h.news os).N k → φ3 k = phi2 φ1 σ (xiL ξL) k ∧ κ3 k = kap2 κ1 σ (xiL ξL) k := fun k hk => by
      have := sees_lt hk
      rw [hnx] at this
      exact ⟨if_pos this, if_pos this⟩
    have hold : ∀ k, k < h.next → φ3 k = φ k ∧ κ3 k = κ k := by
      intro k hk
      obtain ⟨a1, a2⟩ := S.agr k hk
      have hs : σ k = k := if_pos hk
      have e1 : φ3 k = phi2 φ1 σ (xiL ξL) k := if_pos (by omega)
      have e2 : κ3 k = kap2 κ1 σ (xiL ξL) k := if_pos (by omega)
      rw [e1, e2]
      rw [phi2_eq (by rw [hlow k hk]; simp)]
      unfold kap2
      rw [hs, hlow k hk]
      exact ⟨a1, a2⟩
    have hb := S.rel.below
    have hwl1 : h1.wlim = h.next := S.wlim.trans hw
    have hv : okV (h.news os).N (kap2 κ1 σ (xiL ξL)) v := ok_mv hroom hN v (by rw [← q7]; exact r2) q8
    -- an object that is new
    have new : ∀ k o, (h.news os).get k = some o → ¬ k < h.next → entOK (phi2 φ1 σ (xiL ξL)) (kap2 κ1 σ (xiL ξL)) (h.news os).N w1 k o ∧ (rl κ3 k o → ∃ o1, phi2 φ1 σ (xiL ξL) k = φ1 (σ k) ∧ h1.get (σ k) = some o1 ∧ rl κ1 (σ k) o1 ∧ h.next ≤ σ k ∧ k - h.next < σL.length ∧ σ k = σL.getD (k - h.next) 0) := by
      intro k o g hk
      have hs' := get_sees g
      rw [news_get R.hid, if_neg hk] at g
      have hlt := (List.getElem?_eq_some_iff.1 g).1
      have hs : σ k = σL.getD (k - h.next) 0 := if_neg hk
      have q := q9 _ _ g
      rw [show h.next + (k - h.next) = k from by omega] at q
      have e2 : κ3 k = kap2 κ1 σ (xiL ξL) k := (hag k hs').2
      rcases q with ⟨hx, m1⟩ | ⟨hx, o1, g1, m1⟩
      · have hz : kap2 κ1 σ (xiL ξL) k = 0 := by unfold kap2; rw [hx]
        exact ⟨m1.ent hz, fun hr => absurd hr (m1.rl (by rw [e2]; exact hz))⟩
      · have E1 := S.rel.ent _ _ g1
        rw [← hs] at E1 g1
        refine ⟨m1.ent hroom hN hx E1, fun hr => ⟨o1, phi2_eq hx, g1, m1.rl (rl_congr e2 hr), ?_, by omega, hs⟩⟩
        rw [hs, List.getD_eq_getElem?_getD, List.getElem?_eq_getElem (by omega)]
        exact q5 _ (List.getElem_mem _)
    refine ⟨φ3, κ3, ?_, ⟨fun k hk => ?_, ⟨R.below.trans (hb.mono R.below.size), fun p hp => (by rw [news_hid, hid] at hp; cases hp), by rw [news_wlim, hnx]; omega, fun k o g => ?_, fun k o g hr hk => ?_, fun k k' o o' g g' hr hr' hk e => ?_⟩, by omega, news_hid _ _, news_wlim _ _, fun k hk => news_tr _ _ _ (by omega)⟩, ok_mono (fun _ x => x) (fun k hk => (hag k hk).2) v hv⟩
    · rw [q7, ren_mv hroom v q8, ren_congr hag v hv]
    · rw [hnx] at hk
      by_cases h1 : k < h.next
      · exact hold k h1
      · exact ⟨if_neg (by omega), if_neg (by omega)⟩
    · by_cases h1 : k < h.next
      · rw [news_get R.hid, if_pos h1] at g
        have E := R.ent k o g
        exact E.move (fun j s => news_N _ s) (fun j s => hold j (sees_lt s)) (hold k h1) (fun hr => hb.block _ (E.lt hr))
      · obtain ⟨E, _⟩ := new k o g h1
        exact E.move (fun _ x => x) hag (hag k (get_sees g)) fun _ => rfl
    · rw [news_wlim, hw] at hk
      obtain ⟨o1, p1, g1, r1, g2, _⟩ := (new k o g (by omega)).2 hr
      rw [(hag k (get_sees g)).1]
      have := S.rel.own _ _ g1 r1 (by rw [hwl1]; exact g2)
      rw [p1]
      have := R.below.size
      omega
    · rw [news_wlim, hw] at hk
      obtain ⟨o1, p1, g1, r1, g2, g3, g4⟩ := (new k o g (by omega)).2 hr
      rw [(hag k (get_sees g)).1] at e
      by_cases h1 : k' < h.next
      · rw [news_get R.hid, if_pos h1] at g'
        rw [(hold k' h1).1] at e
        have := S.rel.own _ _ g1 r1 (by rw [hwl1]; exact g2)
        have := (R.ent k' o' g').lt (rl_congr (hold k' h1).2 hr')
        rw [p1] at e
        omega
      · obtain ⟨o1', p1', g1', r1', g2', g3', g4'⟩ := (new k' o' g' h1).2 hr'
        rw [(hag k' (get_sees g')).1, p1, p1'] at e
        have := S.rel.inj _ _ _ _ g1 g1' r1 r1' (by rw [hwl1]; exact g2) e
        rw [g4, g4', List.getD_eq_getElem?_getD, List.getD_eq_getElem?_getD, List.getElem?_eq_getElem g3, List.getElem?_eq_getElem g3'] at this
        have := (List.getElem?_inj g3 q4).1 ((List.getElem?_eq_getElem g3).trans ((congrArg some this).trans (List.getElem?_eq_getElem g3').symm))
        omega
  cases e with
  | normal => exact hfin
  | ret => exact hfin
  | exit id => exact absurd rfl (q0 id)

theorem Fc.intro0 {P : Program} {f nt : Nat} {ic : IC} {rs : List ResultVar} {args : List Value} {h : AH} {v : Value} (F : FnIs P f ic nt rs) (hl : args.length ≤ nt) (hid : h.hid = []) (hw : h.wlim = h.next)
    (T : ITri P nt none h.next ic (argF 0 args) [] h (EndR P rs h.next [] v)) : Fc P f args h v h := Fc.introR (os := []) F hl hid hw T
end Go.Vm

/- VnH: Walks on memory by names, eighth part: tests of many parts brought together; guards that are not decided. -/
namespace Go.Vm
open Go Go.RowKit

/-- The first entry of a slot, written otherwise. -/
def subL (g : Nat) (v : Value) : Fr → Fr
  | [] => []
  | (d, u) :: r => if d = g then (d, v) :: r else (d, u) :: subL g v r
theorem subL_eq {g : Nat} {v : Value} : ∀ {l : Fr}, lk l g = some v → subL g v l = l
  | [], h => by cases h
  | (d, u) :: r, h => by
    simp only [lk] at h
    simp only [subL]
    by_cases e : d = g
    · rw [if_pos e] at h ⊢
      injection h with h
      rw [h]
    · rw [if_neg e] at h ⊢
      rw [subL_eq h]
theorem subL_hit (d : Nat) (u v : Value) (r : Fr) : subL d v ((d, u) :: r) = (d, v) :: r := if_pos rfl
theorem subL_miss {d g : Nat} (h : Nat.beq d g = false) (u v : Value) (r : Fr) : subL g v ((d, u) :: r) = (d, u) :: subL g v r := if_neg (fun e => by subst e; rw [Nat.beq_refl] at h; cases h)

section
variable {P : Program} {l : Fr} {h : AH} {K : Fr → AH → Prop} {d : Option Nat} {w : Bool} {i : I} {r : List IOp}
theorem split_dec {α : Prop} {F : Fr → Prop} {g : Nat} {p : Prop} [Decidable p] (hl : lk l g = some (.bool (decide p))) (hF : F l = α) : α = ((p → F (subL g (.bool true) l)) ∧ (¬p → F (subL g (.bool false) l))) := by
  subst hF
  by_cases hp : p
  · have e : lk l g = some (.bool true) := by rw [hl]; simp [hp]
    rw [subL_eq e]
    exact propext ⟨fun x => ⟨fun _ => x, fun hn => absurd hp hn⟩, fun x => x.1 hp⟩
  · have e : lk l g = some (.bool false) := by rw [hl]; simp [hp]
    rw [subL_eq e]
    exact propext ⟨fun x => ⟨fun hn => absurd hn hp, fun _ => x⟩, fun x => x.2 hp⟩
theorem split_not {α : Prop} {F : Fr → Prop} {g : Nat} {p : Prop} [Decidable p] (hl : lk l g = some (.bool !(decide p))) (hF : F l = α) : α = ((p → F (subL g (.bool false) l)) ∧ (¬p → F (subL g (.bool true) l))) := by
  subst hF
  by_cases hp : p
  · have e : lk l g = some (.bool false) := by rw [hl]; simp [hp]
    rw [subL_eq e]
    exact propext ⟨fun x => ⟨fun _ => x, fun hn => absurd hp hn⟩, fun x => x.1 hp⟩
  · have e : lk l g = some (.bool true) := by rw [hl]; simp [hp]
    rw [subL_eq e]
    exact propext ⟨fun x => ⟨fun hn => absurd hn hp, fun _ => x⟩, fun x => x.2 hp⟩
theorem iRow_dec {g : Nat} {b : Bool} {p : Prop} [Decidable p] (hl : lk l g = some (.bool (decide p))) : iRow P (⟨d, some (g, b), w, i⟩ :: r) l h K = ((p → iRow P (⟨d, some (g, b), w, i⟩ :: r) (subL g (.bool true) l) h K) ∧ (¬p → iRow P (⟨d, some (g, b), w, i⟩ :: r) (subL g (.bool false) l) h K)) :=
  split_dec (F := fun l => iRow P (⟨d, some (g, b), w, i⟩ :: r) l h K) hl rfl
theorem iRow_decn {g : Nat} {b : Bool} {p : Prop} [Decidable p] (hl : lk l g = some (.bool !(decide p))) : iRow P (⟨d, some (g, b), w, i⟩ :: r) l h K = ((p → iRow P (⟨d, some (g, b), w, i⟩ :: r) (subL g (.bool false) l) h K) ∧ (¬p → iRow P (⟨d, some (g, b), w, i⟩ :: r) (subL g (.bool true) l) h K)) :=
  split_not (F := fun l => iRow P (⟨d, some (g, b), w, i⟩ :: r) l h K) hl rfl
variable {n : Nat} {news : List (Nat × Nat × Nat)} {s : List (IOp × Bool × Nat × Nat)} {x : Bool × Nat × Nat}
theorem iDraw_dec {g : Nat} {b : Bool} {p : Prop} [Decidable p] (hl : lk l g = some (.bool (decide p))) : iDraw P n ((⟨d, some (g, b), w, i⟩, x) :: s) l h news K = ((p → iDraw P n ((⟨d, some (g, b), w, i⟩, x) :: s) (subL g (.bool true) l) h news K) ∧ (¬p → iDraw P n ((⟨d, some (g, b), w, i⟩, x) :: s) (subL g (.bool false) l) h news K)) :=
  split_dec (F := fun l => iDraw P n ((⟨d, some (g, b), w, i⟩, x) :: s) l h news K) hl rfl
theorem iDraw_decn {g : Nat} {b : Bool} {p : Prop} [Decidable p] (hl : lk l g = some (.bool !(decide p))) : iDraw P n ((⟨d, some (g, b), w, i⟩, x) :: s) l h news K = ((p → iDraw P n ((⟨d, some (g, b), w, i⟩, x) :: s) (subL g (.bool false) l) h news K) ∧ (¬p → iDraw P n ((⟨d, some (g, b), w, i⟩, x) :: s) (subL g (.bool true) l) h news K)) :=
  split_not (F := fun l => iDraw P n ((⟨d, some (g, b), w, i⟩, x) :: s) l h news K) hl rfl
/-- A choice that is not decided. -/
theorem iStep_pickd {K : Value → AH → Prop} {c a b : X} {p : Prop} [Decidable p] (hc : c.ev l = some (.bool (decide p))) : iStep P w (.pick c a b) l h K = ((p → match a.ev l with | some v => K v h | none => False) ∧ (¬p → match b.ev l with | some v => K v h | none => False)) := by
  rw [iStep_pick, hc]
  by_cases hp : p
  · simp only [hp, decide_true, true_implies, not_true_eq_false, false_implies, and_true, Bool.true_eq_false]; try rfl
  · simp only [hp, decide_false, true_implies, not_false_eq_true, false_implies, true_and, Bool.false_eq_true]; try rfl
end

theorem wOKm_ok {m : Nat} {news : List (Nat × Nat × Nat)} (h : wOKm m news = true) : (wOKm m news = true) = True := eq_true h
theorem oldName_ok {k : Nat} {news : List (Nat × Nat × Nat)} (h : oldName k news = true) : (oldName k news = true) = True := eq_true h
theorem locOKm_ok {m c k : Nat} {news : List (Nat × Nat × Nat)} (h : locOKm m c k news = true) : (locOKm m c k news = true) = True := eq_true h
theorem addNews_1 {i a b : Nat} {news : List (Nat × Nat × Nat)} (h : Nat.blt a b = true) : addNews i a b news = (i, a, b) :: news := if_pos (by rwa [Nat.blt_eq] at h)

/-- What a test of many parts leaves: a slot with a bool, all else in one way. -/
def LeafV (F : Bool → Fr) (A : Prop) (ms : List Nat) (H : AH) (e : AEx) (l : Fr) (ms' : List Nat) (h : AH) : Prop := e = .normal ∧ ms' = ms ∧ ∃ v, (v = true ↔ A) ∧ l = F v ∧ h = H
section
variable {F : Bool → Fr} {A : Prop} {ms : List Nat} {H : AH} {l : Fr} {h : AH}
theorem LeafV.t (hA : A) (h1 : l = F true) (h2 : h = H) : LeafV F A ms H .normal l ms h := ⟨rfl, rfl, true, ⟨fun _ => hA, fun _ => rfl⟩, h1, h2⟩
theorem LeafV.f (hA : ¬A) (h1 : l = F false) (h2 : h = H) : LeafV F A ms H .normal l ms h := ⟨rfl, rfl, false, ⟨fun e => (by cases e), fun e => absurd e hA⟩, h1, h2⟩
theorem LeafV.d {p : Prop} [Decidable p] (hA : p ↔ A) (h1 : l = F (decide p)) (h2 : h = H) : LeafV F A ms H .normal l ms h := ⟨rfl, rfl, decide p, decide_eq_true_iff.trans hA, h1, h2⟩
theorem LeafV.n {p : Prop} [Decidable p] (hA : ¬p ↔ A) (h1 : l = F !(decide p)) (h2 : h = H) : LeafV F A ms H .normal l ms h := ⟨rfl, rfl, !decide p, by rw [Bool.not_eq_true', decide_eq_false_iff_not]; exact hA, h1, h2⟩
end

section
variable {P : Program} {nt b : Nat} {rd : Option Nat} {l : Fr} {ms : List Nat} {h : AH} {Q : AEx → Fr → List Nat → AH → Prop}
theorem LeafV.to {F : Bool → Fr} {A : Prop} {H : AH} {e : AEx} {l' : Fr} {ms' : List Nat} {h' : AH} (q : ∀ v, (v = true ↔ A) → Q .normal (F v) ms H) : LeafV F A ms H e l' ms' h' → Q e l' ms' h' := by
  rintro ⟨rfl, rfl, v, h1, rfl, rfl⟩
  exact q v h1
theorem ITri.regv {ops : List IOp} {live : Option (List Nat)} (ok : POk P) (F : Bool → Fr) (A : Prop) {H : AH} (T : iRow P ops l h fun l' h' => LeafV F A ms H .normal (liveF live l') ms h') (q : ∀ v, (v = true ↔ A) → Q .normal (F v) ms H) : ITri P nt rd b (.reg ops live) l ms h Q :=
  (ITri.reg (Q := LeafV F A ms H) ok T).mono fun _ _ _ _ => LeafV.to q
theorem ITri.drawv {ops : List (IOp × Bool × Nat × Nat)} {live : Option (List Nat)} (ok : POk P) (F : Bool → Fr) (A : Prop) {H : AH} (T : iDraw P 0 ops l h [] fun l' h' => LeafV F A ms H .normal (liveF live l') ms h') (q : ∀ v, (v = true ↔ A) → Q .normal (F v) ms H) : ITri P nt rd b (.draw ops live) l ms h Q :=
  (ITri.draw (Q := LeafV F A ms H) ok T).mono fun _ _ _ _ => LeafV.to q
theorem ITri.condP {x : X} {y z : IC} {v : Bool} {A : Prop} (hx : x.ev l = some (.bool v)) (hv : v = true ↔ A) (Y : A → ITri P nt rd b y l ms h Q) (Z : ¬A → ITri P nt rd b z l ms h Q) : ITri P nt rd b (.cond x y z) l ms h Q :=
  ITri.cond hx (fun e => Y (hv.1 e)) (fun e => Z fun a => by rw [hv.2 a] at e; cases e)
theorem ITri.condD {x : X} {y z : IC} {p : Prop} [Decidable p] (hx : x.ev l = some (.bool (decide p))) (Y : p → ITri P nt rd b y l ms h Q) (Z : ¬p → ITri P nt rd b z l ms h Q) : ITri P nt rd b (.cond x y z) l ms h Q :=
  ITri.condP hx decide_eq_true_iff Y Z
theorem ITri.condN {x : X} {y z : IC} {p : Prop} [Decidable p] (hx : x.ev l = some (.bool !(decide p))) (Y : ¬p → ITri P nt rd b y l ms h Q) (Z : p → ITri P nt rd b z l ms h Q) : ITri P nt rd b (.cond x y z) l ms h Q :=
  ITri.condP (A := ¬p) hx (by rw [Bool.not_eq_true', decide_eq_false_iff_not]) Y (fun h => Z (Decidable.not_not.1 h))
end

/-- Ways that meet again: where each of them ends normally it stands in one of a family of states. -/
def CutQ {ι : Type} (nt b : Nat) (rd : Option Nat) (S : ι → Fr) (M : ι → List Nat) (H : ι → AH) (J : ι → Prop) (Q : AEx → Fr → List Nat → AH → Prop) (e : AEx) (l : Fr) (ms : List Nat) (h : AH) : Prop :=
  match e with
  | .normal => ∃ j, J j ∧ Wk nt b rd (trOf l) ms h (trOf (S j)) (M j) (H j)
  | e => Q e l ms h
section
variable {P : Program} {nt b : Nat} {rd : Option Nat} {l : Fr} {ms : List Nat} {h : AH} {Q : AEx → Fr → List Nat → AH → Prop} {ι : Type}
theorem Tri.post {c : Code} {t : Tr Value} {Q Q' : AEx → Tr Value → List Nat → AH → Prop} (T : Tri P nt rd b c t ms h Q) (hq : ∀ e t' ms' h', Q e t' ms' h' → ∃ t2 ms2 h2, Wk nt b rd t' ms' h' t2 ms2 h2 ∧ Q' e t2 ms2 h2) : Tri P nt rd b c t ms h Q' := by
  intro K rc w0 φ κ w a B R D M A hk
  refine T K rc w0 φ κ w a B R D M A fun e t' ms' h' φ1 κ1 w1 a1 q S1 D1 M1 A1 => ?_
  obtain ⟨t2, ms2, h2, W, q2⟩ := hq e t' ms' h' q
  obtain ⟨φ3, κ3, S3, D3, M3, A3⟩ := W w0 φ1 κ1 w1 a1 rc S1.next S1.rel D1 M1 A1
  exact hk e t2 ms2 h2 φ3 κ3 w1 a1 q2 (S1.trans S3) D3 M3 A3
theorem Wk.refl {t : Tr Value} : Wk nt b rd t ms h t ms h := Wk.drop fun _ _ e => e
theorem ITri.cut {ic : IC} (S : ι → Fr) (M : ι → List Nat) (H : ι → AH) (J : ι → Prop) (T : ITri P nt rd b ic l ms h (CutQ nt b rd S M H J Q)) (q : ∀ j, J j → Q .normal (S j) (M j) (H j)) : ITri P nt rd b ic l ms h Q := by
  intro c hc
  refine Tri.post (T c hc) ?_
  rintro e t' ms' h' ⟨l', rfl, x⟩
  cases e with
  | normal =>
    obtain ⟨j, hj, W⟩ := x
    exact ⟨_, _, _, W, S j, rfl, q j hj⟩
  | exit id => exact ⟨_, _, _, Wk.refl, l', rfl, x⟩
  | ret => exact ⟨_, _, _, Wk.refl, l', rfl, x⟩
theorem CutQ.mk {S : ι → Fr} {M : ι → List Nat} {H : ι → AH} {J : ι → Prop} (j : ι) (hj : J j) (W : Wk nt b rd (trOf l) ms h (trOf (S j)) (M j) (H j)) : CutQ nt b rd S M H J Q .normal l ms h := ⟨j, hj, W⟩
variable {S : ι → Fr} {M : ι → List Nat} {H : ι → AH} {J : ι → Prop} {id : Nat}
theorem CutQ_exit : CutQ nt b rd S M H J Q (.exit id) l ms h = Q (.exit id) l ms h := rfl
theorem CutQ_ret : CutQ nt b rd S M H J Q .ret l ms h = Q .ret l ms h := rfl
end

section
variable {wl : Nat} {hid : List (Nat × Nat)} {L : List (Option AObj)}
theorem Rd.hq {k n c sz : Nat} {op : Bool} {cs : List Value} (hf : freeOf hid k = true) (hL : (L[k]?).join = Option.some (.cells ⟨cs, sz, op⟩)) : Rd (Hq wl hid L) (.slice (Option.some ⟨k, 0, none⟩) n c) n cs :=
  Rd.whole ((free_get hf).trans hL)
theorem sees0 (hf : freeOf hid 0 = true) (hL : 0 < L.length) : (Hq wl hid L).sees 0 = true := free_sees hL hf
end
theorem openB_self : (openB < openB) = False := eq_false (Nat.lt_irrefl _)
theorem inR_u32 (n : Int) : inR .u32 n = (0 ≤ n ∧ n ≤ 4294967295) := rfl
theorem inR_u16 (n : Int) : inR .u16 n = (0 ≤ n ∧ n ≤ 65535) := rfl
theorem dvI_rem {a b : Int} (h : 0 ≤ a) : dvI .rem a b = a % b := Int.tmod_eq_emod_of_nonneg h
theorem dvI_quo {a b : Int} (h : 0 ≤ a) : dvI .quo a b = a / b := Int.tdiv_eq_ediv_of_nonneg h
theorem arr_get (l : List Value) (i : Nat) : (⟨l⟩ : Array Value)[i]? = l[i]? := by simp
theorem roomOK (C : Nat) (h : C ≤ 16777216) : (Xi.room C).ok := by
  show C < openB
  unfold openB
  omega
theorem writeAt_1 (cs : List Value) (o : Nat) (v : Value) (h : o < cs.length) : writeAt cs o [v] = cs.set o v := by
  unfold writeAt
  rw [List.set_eq_take_append_cons_drop, if_pos h]
  simp
theorem writeAt_b (cs : List Value) (o : Nat) (v : Value) (h : Nat.blt o cs.length = true) : writeAt cs o [v] = cs.set o v := writeAt_1 cs o v (by rwa [Nat.blt_eq] at h)
theorem rows_set {α : Type} {f : α → List Value} {c : Nat} [F : FlatE f c] {xs : List α} {i j : Nat} {x x' : α} {v : Value} (hi : xs[i]? = some x) (hj : j < c) (hx : f x' = (f x).set j v) : (rows f xs).set (i * c + j) v = rows f (xs.set i x') := by
  induction xs generalizing i with
  | nil => simp at hi
  | cons y ys ih =>
    cases i with
    | zero =>
      simp only [List.getElem?_cons_zero, Option.some.injEq] at hi
      subst hi
      rw [Nat.zero_mul, Nat.zero_add, List.set_cons_zero, rows_cons, rows_cons, hx, List.set_append_left _ _ (by rw [F.len]; exact hj)]
    | succ i =>
      rw [List.set_cons_succ, rows_cons, rows_cons, List.set_append_right _ _ (by rw [F.len, Nat.succ_mul]; omega), F.len, Nat.succ_mul, show i * c + c + j - c = i * c + j by omega, ih (by simpa using hi)]
theorem rows_writef {α : Type} [Inhabited α] {f : α → List Value} {c : Nat} [F : FlatE f c] {xs : List α} {i j : Nat} (x' : α) {v : Value} (hi : i < xs.length) (hj : j < c) (hx : f x' = (f (nth xs i)).set j v) : writeAt (rows f xs) (i * c + j) [v] = rows f (xs.set i x') := by
  rw [writeAt_1, rows_set (get_nth hi) hj hx]
  rw [rows_len]
  have : (i + 1) * c ≤ xs.length * c := Nat.mul_le_mul_right _ hi
  rw [Nat.succ_mul] at this
  omega
theorem xiOK_nil : ∀ p ∈ ([] : List (Nat × Xi)), p.2.ok := fun _ h => by cases h
theorem xiOK_cons {a : Nat} {x : Xi} {r : List (Nat × Xi)} (h : x.ok) (hr : ∀ p ∈ r, p.2.ok) : ∀ p ∈ (a, x) :: r, p.2.ok := fun p hp => by
  rcases List.mem_cons.1 hp with rfl | hp
  · exact h
  · exact hr p hp

section
variable {wl : Nat} {hid : List (Nat × Nat)} {L : List (Option AObj)} {k sz bytes n ne c2 k2 o2 : Nat} {K : Value → AH → Prop}
theorem set_new {x y : Option AObj} (hk : k < L.length) : (Hq wl hid (L ++ [x])).put k y = Hq wl hid ((L ++ [x]).set k y) := Hq_put k y (by simp; omega)
/-- Appending to a row whose room is open. -/
theorem appK_o {old : List Value} (hf : freeOf hid k = true) (hL : (L[k]?).join = some (AObj.cells ⟨old, sz, true⟩)) (hl : old.length = n * sz) (hne' : ne ≠ 0) :
    appK (Hq wl hid L) sz bytes (.slice (some ⟨k, 0, none⟩) n openB) (.slice (some ⟨k2, o2, none⟩) ne c2) K =
      (match cellsAt (Hq wl hid L) k2 o2 (ne * sz) with
       | some new => chk (wl ≤ k ∧ (2 * (n + ne) + 1024) * bytes ≤ 281474976710656) (new.all Value.oneCell' = true ∧ K (.slice (some ⟨L.length, 0, none⟩) (n + ne) openB) (Hq wl hid ((L ++ [some (AObj.cells ⟨old ++ new, sz, true⟩)]).set k none)))
       | none => False) := by
  have hg : (Hq wl hid L).get k = some (.cells ⟨old, sz, true⟩) := (free_get hf).trans hL
  have hk : k < L.length := by
    rcases Nat.lt_or_ge k L.length with h | h
    · exact h
    · rw [List.getElem?_eq_none h] at hL; cases hL
  have hself : sCells (Hq wl hid L) sz (.slice (some ⟨k, 0, none⟩) n openB) = some old := by
    unfold sCells
    by_cases h0 : n = 0
    · subst h0
      rw [Nat.zero_mul] at hl
      simp [List.eq_nil_of_length_eq_zero hl]
    · simp only [if_neg h0, cellsAt, hg]
      rw [if_pos (by omega)]
      simp [← hl]
  have hsc : sCells (Hq wl hid L) sz (.slice (some ⟨k2, o2, none⟩) ne c2) = cellsAt (Hq wl hid L) k2 o2 (ne * sz) := if_neg hne'
  unfold appK
  rw [hsc]
  cases hx : cellsAt (Hq wl hid L) k2 o2 (ne * sz) with
  | none => rfl
  | some new =>
    simp only [slen_slice]
    unfold appN
    simp only [openB_self, if_false, hg, hself]
    apply propext
    constructor
    · rintro ⟨_, h2⟩
      obtain ⟨⟨q1, q2, q3⟩, q4, q5, q6, q7⟩ := h2 hne'
      exact ⟨⟨q1, q3⟩, q6, by rw [← set_new hk]; rw [← Hq_new]; exact q7⟩
    · rintro ⟨⟨q1, q3⟩, q6, q7⟩
      rw [← set_new hk, ← Hq_new] at q7
      exact ⟨fun e => absurd e hne', fun _ => ⟨⟨q1, by simp, q3⟩, by trivial, by trivial, q6, q7⟩⟩
theorem appK_e {a : Option Addr} (ha : sCells (Hq wl hid L) sz (.slice a 0 0) = some []) (hne' : ne ≠ 0) :
    appK (Hq wl hid L) sz bytes (.slice a 0 0) (.slice (some ⟨k2, o2, none⟩) ne c2) K =
      (match cellsAt (Hq wl hid L) k2 o2 (ne * sz) with
       | some new => chk ((2 * ne + 1024) * bytes ≤ 281474976710656) (K (.slice (some ⟨L.length, 0, none⟩) ne openB) (Hq wl hid (L ++ [some (AObj.cells ⟨new, sz, true⟩)])))
       | none => False) := by
  have ho : 0 < openB := by unfold openB; omega
  have hsc : sCells (Hq wl hid L) sz (.slice (some ⟨k2, o2, none⟩) ne c2) = cellsAt (Hq wl hid L) k2 o2 (ne * sz) := if_neg hne'
  unfold appK
  rw [hsc]
  cases hx : cellsAt (Hq wl hid L) k2 o2 (ne * sz) with
  | none => rfl
  | some new =>
    simp only [slen_slice]
    unfold appN
    have h1 : ¬ (ne ≤ 0) := by omega
    simp only [ho, if_true, h1, if_false, ha, Nat.zero_add, List.nil_append, Hq_new, Hq_next]
    exact propext ⟨fun h => h.2 hne', fun h => ⟨fun e => absurd e hne', fun _ => h⟩⟩
/-- Appending to an empty slice without room. -/
theorem appK_n (hne' : ne ≠ 0) :
    appK (Hq wl hid L) sz bytes (.slice none 0 0) (.slice (some ⟨k2, o2, none⟩) ne c2) K =
      (match cellsAt (Hq wl hid L) k2 o2 (ne * sz) with
       | some new => chk ((2 * ne + 1024) * bytes ≤ 281474976710656) (K (.slice (some ⟨L.length, 0, none⟩) ne openB) (Hq wl hid (L ++ [some (AObj.cells ⟨new, sz, true⟩)])))
       | none => False) := appK_e rfl hne'
theorem appK_c (hne' : ne ≠ 0) :
    appK (Hq wl hid L) sz bytes (.slice (some ⟨k, n, none⟩) 0 0) (.slice (some ⟨k2, o2, none⟩) ne c2) K =
      (match cellsAt (Hq wl hid L) k2 o2 (ne * sz) with
       | some new => chk ((2 * ne + 1024) * bytes ≤ 281474976710656) (K (.slice (some ⟨L.length, 0, none⟩) ne openB) (Hq wl hid (L ++ [some (AObj.cells ⟨new, sz, true⟩)])))
       | none => False) := appK_e rfl hne'
end
theorem rows_allT {α : Type} {f : α → List Value} {c : Nat} [F : FlatE f c] (xs : List α) : (rows f xs).all Value.oneCell' = true := by
  rw [List.all_eq_true]
  intro v hv
  obtain ⟨x, _, hx⟩ := List.mem_flatMap.1 hv
  exact List.all_eq_true.1 (F.one x) v hx
/- Two simp sets, each as one theorem. -/
theorem vcD : type_of% (And.intro @iRow_none <|
  And.intro @iRow_on <|
  And.intro @iRow_off <|
  And.intro @iRow_un <|
  And.intro @iDraw_none <|
  And.intro @iDraw_bar <|
  And.intro @iDraw_barS <|
  And.intro @iDraw_on <|
  And.intro @iDraw_baron <|
  And.intro @iDraw_off <|
  And.intro @iDraw_un <|
  And.intro @dStep_0 <|
  And.intro @dStep_n <|
  And.intro @dStep_s <|
  And.intro @dStep_an <|
  And.intro @dStep_a0 <|
  And.intro @dStep_ac <|
  And.intro @dStep_az <|
  And.intro @dStep_ak <|
  And.intro @iStep_mv <|
  And.intro @iStep_pick <|
  And.intro @iStep_nilck <|
  And.intro @iStep_add <|
  And.intro @iStep_sub <|
  And.intro @iStep_mul <|
  And.intro @iStep_addw <|
  And.intro @iStep_subw <|
  And.intro @iStep_mulw <|
  And.intro @iStep_eql <|
  And.intro @iStep_neq <|
  And.intro @iStep_lss <|
  And.intro @iStep_leq <|
  And.intro @iStep_gtr <|
  And.intro @iStep_geq <|
  And.intro @iStep_cmpb <|
  And.intro @iStep_eqs <|
  And.intro @iStep_div <|
  And.intro @iStep_bits <|
  And.intro @iStep_shf <|
  And.intro @iStep_not <|
  And.intro @iStep_neg <|
  And.intro @iStep_conv <|
  And.intro @iStep_convw <|
  And.intro @iStep_fad <|
  And.intro @iStep_iad <|
  And.intro @iStep_iada <|
  And.intro @iStep_ldc <|
  And.intro @iStep_lda <|
  And.intro @iStep_st <|
  And.intro @iStep_box <|
  And.intro @iStep_alloc <|
  And.intro @iStep_ext <|
  And.intro @iStep_fldc <|
  And.intro @iStep_flda <|
  And.intro @iStep_bld <|
  And.intro @iStep_bsl <|
  And.intro @iStep_len <|
  And.intro @iStep_mm <|
  And.intro @iStep_mkf <|
  And.intro @iStep_mks <|
  And.intro @iStep_call <|
  And.intro @iStep_app <|
  And.intro @ev_t <|
  And.intro @ev_k <|
  And.intro @ev_f <|
  And.intro @lk_hit <|
  And.intro @lk_miss <|
  And.intro @lk_nil <|
  And.intro @putF_some <|
  And.intro @putF_none <|
  And.intro @liveF_some <|
  And.intro @keepF_nil <|
  And.intro @keepF_cons <|
  And.intro @cellAt_H <|
  And.intro @cellsAt_H <|
  And.intro @lenAt_H <|
  And.intro @stAt_H <|
  And.intro @appK_o <|
  And.intro @appK_n <|
  And.intro @appK_c <|
  And.intro @cellAt_F <|
  And.intro @cellsAt_F <|
  And.intro @lenAt_F <|
  And.intro @stAt_F @arr_get) := And.intro @iRow_none <|
  And.intro @iRow_on <|
  And.intro @iRow_off <|
  And.intro @iRow_un <|
  And.intro @iDraw_none <|
  And.intro @iDraw_bar <|
  And.intro @iDraw_barS <|
  And.intro @iDraw_on <|
  And.intro @iDraw_baron <|
  And.intro @iDraw_off <|
  And.intro @iDraw_un <|
  And.intro @dStep_0 <|
  And.intro @dStep_n <|
  And.intro @dStep_s <|
  And.intro @dStep_an <|
  And.intro @dStep_a0 <|
  And.intro @dStep_ac <|
  And.intro @dStep_az <|
  And.intro @dStep_ak <|
  And.intro @iStep_mv <|
  And.intro @iStep_pick <|
  And.intro @iStep_nilck <|
  And.intro @iStep_add <|
  And.intro @iStep_sub <|
  And.intro @iStep_mul <|
  And.intro @iStep_addw <|
  And.intro @iStep_subw <|
  And.intro @iStep_mulw <|
  And.intro @iStep_eql <|
  And.intro @iStep_neq <|
  And.intro @iStep_lss <|
  And.intro @iStep_leq <|
  And.intro @iStep_gtr <|
  And.intro @iStep_geq <|
  And.intro @iStep_cmpb <|
  And.intro @iStep_eqs <|
  And.intro @iStep_div <|
  And.intro @iStep_bits <|
  And.intro @iStep_shf <|
  And.intro @iStep_not <|
  And.intro @iStep_neg <|
  And.intro @iStep_conv <|
  And.intro @iStep_convw <|
  And.intro @iStep_fad <|
  And.intro @iStep_iad <|
  And.intro @iStep_iada <|
  And.intro @iStep_ldc <|
  And.intro @iStep_lda <|
  And.intro @iStep_st <|
  And.intro @iStep_box <|
  And.intro @iStep_alloc <|
  And.intro @iStep_ext <|
  And.intro @iStep_fldc <|
  And.intro @iStep_flda <|
  And.intro @iStep_bld <|
  And.intro @iStep_bsl <|
  And.intro @iStep_len <|
  And.intro @iStep_mm <|
  And.intro @iStep_mkf <|
  And.intro @iStep_mks <|
  And.intro @iStep_call <|
  And.intro @iStep_app <|
  And.intro @ev_t <|
  And.intro @ev_k <|
  And.intro @ev_f <|
  And.intro @lk_hit <|
  And.intro @lk_miss <|
  And.intro @lk_nil <|
  And.intro @putF_some <|
  And.intro @putF_none <|
  And.intro @liveF_some <|
  And.intro @keepF_nil <|
  And.intro @keepF_cons <|
  And.intro @cellAt_H <|
  And.intro @cellsAt_H <|
  And.intro @lenAt_H <|
  And.intro @stAt_H <|
  And.intro @appK_o <|
  And.intro @appK_n <|
  And.intro @appK_c <|
  And.intro @cellAt_F <|
  And.intro @cellsAt_F <|
  And.intro @lenAt_F <|
  And.intro @stAt_F @arr_get
theorem vcE : type_of% (And.intro @iRow_nil <|
  And.intro @iDraw_nil <|
  And.intro @SeqQ_normal <|
  And.intro @SeqQ_exit <|
  And.intro @SeqQ_ret <|
  And.intro @BlkQ_normal <|
  And.intro @BlkQ_ret <|
  And.intro @BlkQ_hit <|
  And.intro @BlkQ_miss <|
  And.intro @LoopQ_exit <|
  And.intro @LoopQ_ret <|
  And.intro @CutQ_exit <|
  And.intro @CutQ_ret <|
  And.intro @keepM_some <|
  And.intro @keepM_none <|
  And.intro @addOff_0 <|
  And.intro @addOff_s <|
  And.intro @mmI_nil <|
  And.intro @mmI_min <|
  And.intro @mmI_max <|
  And.intro @getC_cells <|
  And.intro @getCs_cells <|
  And.intro @lenC_cells <|
  And.intro @setC_cells' <|
  And.intro @get_H <|
  And.intro @takeC_0 <|
  And.intro @writeAt_0 <|
  And.intro @writeAt_b <|
  And.intro @rows_allT <|
  And.intro @rows_len <|
  And.intro @Hq_next <|
  And.intro @Hq_wlim <|
  And.intro @Hq_new <|
  And.intro @Hq_view <|
  And.intro @Hq_lview <|
  And.intro @Hq_back <|
  And.intro @Hq_backl <|
  And.intro @hidL_nil <|
  And.intro @hidL_hid <|
  And.intro @hidL_see <|
  And.intro @wOKm_ok <|
  And.intro @locOKm_ok <|
  And.intro @oldName_ok <|
  And.intro @free_get <|
  And.intro @addNews_same <|
  And.intro @addNews_1 <|
  And.intro @chk_true <|
  And.intro @Bool.false_eq_true <|
  And.intro @Bool.true_eq_false <|
  And.intro @Bool.not_true <|
  And.intro @Bool.not_false <|
  And.intro @Bool.false_and <|
  And.intro @Bool.true_and <|
  And.intro @Bool.and_true <|
  And.intro @Bool.and_false <|
  And.intro @Bool.or_true <|
  And.intro @Bool.or_false <|
  And.intro @Bool.true_or <|
  And.intro @Bool.false_or <|
  And.intro @Nat.zero_add <|
  And.intro @Nat.mul_one <|
  And.intro @Nat.add_zero <|
  And.intro @Nat.le_refl <|
  And.intro @Nat.zero_le <|
  And.intro @true_and <|
  And.intro @and_true <|
  And.intro @true_implies <|
  And.intro @false_implies <|
  And.intro @lenV_slice <|
  And.intro @lenV_rdV <|
  And.intro @inR_i64 <|
  And.intro @inR_u64 <|
  And.intro @inR_u8 <|
  And.intro @inR_i32 <|
  And.intro @Int.toNat_natCast <|
  And.intro @dvI_rem <|
  And.intro @dvI_quo <|
  And.intro @inR_u32 @inR_u16) := And.intro @iRow_nil <|
  And.intro @iDraw_nil <|
  And.intro @SeqQ_normal <|
  And.intro @SeqQ_exit <|
  And.intro @SeqQ_ret <|
  And.intro @BlkQ_normal <|
  And.intro @BlkQ_ret <|
  And.intro @BlkQ_hit <|
  And.intro @BlkQ_miss <|
  And.intro @LoopQ_exit <|
  And.intro @LoopQ_ret <|
  And.intro @CutQ_exit <|
  And.intro @CutQ_ret <|
  And.intro @keepM_some <|
  And.intro @keepM_none <|
  And.intro @addOff_0 <|
  And.intro @addOff_s <|
  And.intro @mmI_nil <|
  And.intro @mmI_min <|
  And.intro @mmI_max <|
  And.intro @getC_cells <|
  And.intro @getCs_cells <|
  And.intro @lenC_cells <|
  And.intro @setC_cells' <|
  And.intro @get_H <|
  And.intro @takeC_0 <|
  And.intro @writeAt_0 <|
  And.intro @writeAt_b <|
  And.intro @rows_allT <|
  And.intro @rows_len <|
  And.intro @Hq_next <|
  And.intro @Hq_wlim <|
  And.intro @Hq_new <|
  And.intro @Hq_view <|
  And.intro @Hq_lview <|
  And.intro @Hq_back <|
  And.intro @Hq_backl <|
  And.intro @hidL_nil <|
  And.intro @hidL_hid <|
  And.intro @hidL_see <|
  And.intro @wOKm_ok <|
  And.intro @locOKm_ok <|
  And.intro @oldName_ok <|
  And.intro @free_get <|
  And.intro @addNews_same <|
  And.intro @addNews_1 <|
  And.intro @chk_true <|
  And.intro @Bool.false_eq_true <|
  And.intro @Bool.true_eq_false <|
  And.intro @Bool.not_true <|
  And.intro @Bool.not_false <|
  And.intro @Bool.false_and <|
  And.intro @Bool.true_and <|
  And.intro @Bool.and_true <|
  And.intro @Bool.and_false <|
  And.intro @Bool.or_true <|
  And.intro @Bool.or_false <|
  And.intro @Bool.true_or <|
  And.intro @Bool.false_or <|
  And.intro @Nat.zero_add <|
  And.intro @Nat.mul_one <|
  And.intro @Nat.add_zero <|
  And.intro @Nat.le_refl <|
  And.intro @Nat.zero_le <|
  And.intro @true_and <|
  And.intro @and_true <|
  And.intro @true_implies <|
  And.intro @false_implies <|
  And.intro @lenV_slice <|
  And.intro @lenV_rdV <|
  And.intro @inR_i64 <|
  And.intro @inR_u64 <|
  And.intro @inR_u8 <|
  And.intro @inR_i32 <|
  And.intro @Int.toNat_natCast <|
  And.intro @dvI_rem <|
  And.intro @dvI_quo <|
  And.intro @inR_u32 @inR_u16
/- what is said of lists, in one -/
theorem vcG : type_of% (And.intro @List.getElem?_cons_zero.{0} @List.getElem?_cons_succ.{0}) := And.intro @List.getElem?_cons_zero.{0} @List.getElem?_cons_succ.{0}
theorem vcF : type_of% (And.intro @List.append_nil.{0} <| And.intro @List.nil_append.{0} <| And.intro @List.cons_append.{0} <| And.intro @List.length_cons.{0} <| And.intro @List.length_nil.{0} <| And.intro @List.filter_nil.{0} <| And.intro @List.map_nil.{0, 0} <| And.intro @List.getElem?_cons_zero.{0} <| And.intro @List.getElem?_cons_succ.{0} <| And.intro @List.set_cons_zero.{0} <| And.intro @List.set_cons_succ.{0} <| And.intro @Option.join_some.{0} <| And.intro @Option.join_none.{0} <| And.intro @Option.map_some.{0, 0} <| And.intro @List.all_cons.{0} <| And.intro @List.all_nil.{0} @List.size_toArray.{0}) :=
  And.intro @List.append_nil.{0} <| And.intro @List.nil_append.{0} <| And.intro @List.cons_append.{0} <| And.intro @List.length_cons.{0} <| And.intro @List.length_nil.{0} <| And.intro @List.filter_nil.{0} <| And.intro @List.map_nil.{0, 0} <| And.intro @List.getElem?_cons_zero.{0} <| And.intro @List.getElem?_cons_succ.{0} <| And.intro @List.set_cons_zero.{0} <| And.intro @List.set_cons_succ.{0} <| And.intro @Option.join_some.{0} <| And.intro @Option.join_none.{0} <| And.intro @Option.map_some.{0, 0} <| And.intro @List.all_cons.{0} <| And.intro @List.all_nil.{0} @List.size_toArray.{0}
end Go.Vm
