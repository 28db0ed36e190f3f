/-
  A machine for closed runs, seventeenth part: code, calls, and what a run proves.
-/
import Derived.Test.YtlkfcbdbieenhaaEvP
import Derived.LoopNIn
import Derived.RangeFuncLeaves
namespace Go.Ev
open Go Go.RowKit

section
variable {P : Program} {call : CallF} {nt : Nat} {ops : Array Oper}
variable {w0 w w' : World} {φ φ' : Nat → Nat × Nat} {κ κ' : Nat → Nat} {a : Act} {h h' : AH} {t t' : Tr Value} {ds : List Deferred} {rd : Option Nat}

theorem aDraw_grow (C : CallOk P call) (nm : namesOk P = true) (hs : slotsOk ops (masks [] ops.toList) = true) (hw : h.wlim ≤ h.next) (e : aDraw P call nt ops (masks [] ops.toList) 0 ops.toList t h [] = some (t', h')) :
    ∃ L : Log, Logged P call nt ops L h.wlim h.hid ∧ L.t 0 = t ∧ L.h 0 = h ∧ L.t ops.size = t' ∧ L.h ops.size = h' := by
  let L0 : Log := ⟨fun _ => t, fun _ => h, fun _ => undef, fun _ => 0⟩
  obtain ⟨L, q1, q2, q3, q4, q5, q6⟩ := aDraw_log ops.toList 0 t h [] t' h' L0 e rfl rfl rfl (Nat.le_refl _)
  obtain ⟨a1, a2, a3⟩ := q1 0 (Nat.le_refl _)
  refine ⟨L, ⟨C, nm, hs, fun j o ho => ?_, a3, by rw [a2], by rw [a2], by rw [a2]; exact hw⟩, a1, a2, by simpa using q3, by simpa using q4⟩
  have := q5 j o (by simpa using ho)
  simpa using this

theorem aRegion_grow (C : CallOk P call) (nm : namesOk P = true) (hw : h.wlim ≤ h.next) (e : aRegion P call nt ops t h = some (t', h')) : Grow h h' := by
  unfold aRegion at e
  simp only at e
  split at e
  · rename_i hs
    obtain ⟨L, G, rfl, rfl, rfl, rfl⟩ := aDraw_grow C nm hs hw e
    obtain ⟨c1, c2, c3⟩ := G.const ops.size (Nat.le_refl _)
    refine ⟨c3, c2, c1, fun k hk => ?_⟩
    have key : ∀ m, m ≤ ops.size → (L.h m).tr.get k = (L.h 0).tr.get k := by
      intro m
      induction m with
      | zero => intro _; rfl
      | succ m ih =>
        intro hm
        rw [← ih (by omega)]
        obtain ⟨d1, d2, d3⟩ := G.const m (by omega)
        cases G.at_ m _ (Array.getElem?_eq_getElem (by omega)) with
        | skip hw' hv ht hh' hp => rw [hh']
        | bar hw' hb hs' ht hp => exact (aStep_grow C (by rw [d1]; exact Nat.le_trans hw d3) hs').keep k (by rw [d1]; exact hk)
        | read hw' hb h1 hs' ht hh' hp =>
          have g := aStep_grow C (h := L.hin _ m) (Nat.le_refl _) hs'
          rw [hh']
          refine g.keep k ?_
          show k < lo L m
          have : (L.h 0).wlim ≤ lo L 0 := hw
          omega
    exact key ops.size (Nat.le_refl _)
  · cases e

theorem aRegion_sound (hm : P.follows .mixedOrders = true) (nm : namesOk P = true) (C : CallOk P call) {id : Nat} {Q : Exit → Act → World → Prop} (e : aRegion P call nt ops t h = some (t', h'))
    (R : Rel w0 φ κ h w) (A : ARel φ κ h.N nt t ds a) (hq : ∀ φ' κ' w' a', Step w0 φ κ h φ' κ' h' w' → ARel φ' κ' h'.N nt t' ds a' → Q .normal a' w') : (Code.region id ops true).wpIn (fen rd) 0 P Q a w := by
  have hgrow := aRegion_grow C nm R.wl e
  unfold aRegion at e
  simp only at e
  split at e
  · rename_i hs
    obtain ⟨L, G, rfl, rfl, rfl, rfl⟩ := aDraw_grow C nm hs R.wl e
    have R1 := R.drawn (w.drawn + 1)
    refine wpIn_region_any hm ?_
    refine region_any (ds := ds) G R.hid φ κ A.out ?_ ops.size _ _ _ (by simp) ?_ ?_ (w0 := w0)
    · intro φ' κ' a' w' D I ag hall
      have hRel := all_rel G R.hid I (fun j k hj _ => hall j hj)
      obtain ⟨c1, c2, c3⟩ := G.const ops.size (Nat.le_refl _)
      refine hq φ' κ' w' a' ⟨ag, hRel, hgrow.next, hgrow.hid, hgrow.wlim, hgrow.keep⟩ ⟨I.defers, I.size, fun d hd => ?_, fun d => ?_, out_t G A.out ops.size (Nat.le_refl _)⟩
      · rw [I.tm d hd, G.text d ops.size (Nat.le_refl _)]
        congr 2
        have : ∀ m, m ≤ ops.size → valOf ops L D d m = valOf ops L (fun _ => true) d m := by
          intro m
          induction m with
          | zero => intro _; rfl
          | succ m ih => intro hm'; simp only [valOf, hall m (by omega), ih (by omega)]
        exact this ops.size (Nat.le_refl _)
      · rw [G.text d ops.size (Nat.le_refl _)]
        have hN : ∀ k, (L.h ops.size).N k ↔ k < lo L ops.size ∧ outOk (L.h 0).hid k := fun k => by rw [N_iff, c2]
        rcases valOf_src (ops := ops) (L := L) (D := fun _ => true) (d := d) ops.size with h | ⟨j, hj, _, _, h⟩
        · rw [h]
          exact ok_mono (fun k hk => (hN k).2 ⟨Nat.lt_of_lt_of_le hk.1 c3, hk.2⟩) (fun _ _ => rfl) _ (I.t0ok d)
        · rw [h]
          exact ok_mono (fun k hk => (hN k).2 ⟨Nat.lt_of_lt_of_le hk.1.1 (G.mono (by omega) (by omega)), hk.1.2.1⟩) (fun _ _ => rfl) _ (I.vok j hj (hall j hj))
    · unfold undone
      exact Nat.le_trans (List.length_filter_le _ _) (by simp)
    · obtain ⟨q, n1, n2, n3, n4⟩ := next_bar ops L ops.size 0 (by omega)
      have hch := G.chunk (s := 0) n2 n3 q n1 (Nat.le_refl _)
      have hpq : L.p q = 0 := hch.1.trans G.p0
      have hN : ∀ k, (L.h 0).N k ↔ k < lo L 0 ∧ outOk (L.h 0).hid k := fun k => N_iff k
      have hfalse : ∀ j, (Array.replicate ops.size false).getD j false = false := by
        intro j
        rw [Array.getD_eq_getD_getElem?, Array.getElem?_replicate]
        split <;> rfl
      have hvb : ∀ k, VB L (L.h 0).hid (fun j => (Array.replicate ops.size false).getD j false) q k → k < lo L 0 ∧ outOk (L.h 0).hid k := by
        rintro k (⟨h1, h2⟩ | ⟨j, _, _, h3, _⟩)
        · rw [hpq] at h1; exact ⟨h1, h2⟩
        · exact absurd ((hfalse j).symm.trans h3) (by simp)
      have hget : ∀ k ob, k < lo L 0 → outOk (L.h 0).hid k → (L.h q).tr.get k = some ob → (L.h 0).get k = some ob := by
        intro k ob h1 h2 g
        have hs' : (L.h 0).sees k = true := (hN k).2 ⟨h1, h2⟩
        unfold AH.get
        rw [if_pos hs', ← hch.2 k h1]
        exact g
      have hval : ∀ d m, valOf ops L (fun j => (Array.replicate ops.size false).getD j false) d m = ((L.t 0).get d).getD undef := by
        intro d m
        induction m with
        | zero => rfl
        | succ m ih =>
          simp only [valOf]
          rw [if_neg (fun hc => absurd ((hfalse m).symm.trans hc.1) (by simp))]
          exact ih
      refine ⟨q, φ, κ, ⟨n2, fun j hj hb => absurd hb (n3 j (Nat.zero_le _) hj), fun h => ⟨n4 h, hfalse q⟩, fun i o _ hD => ?_, R1.below, A.defers, A.size, fun d hd => ?_, fun d => ?_, fun j _ hD => ?_, fun k ob k1 k2 g => ?_, fun j k ob _ _ hD => ?_, fun k ob k1 g hk => ?_, fun k k' o1 o2 k1 k2 g1 g2 => ?_⟩, fun k _ => ⟨rfl, rfl⟩⟩
      · exact absurd ((hfalse i).symm.trans hD) (by simp)
      · rw [hval]; exact A.get d hd
      · exact ok_mono (fun k hk => (hN k).1 hk) (fun _ _ => rfl) _ (A.ok d)
      · exact absurd ((hfalse j).symm.trans hD) (by simp)
      · rw [hpq] at k1
        exact (R1.ent k ob (hget k ob k1 k2 g)).move (fun x hx => by rw [hpq]; exact (hN x).1 hx) (fun _ _ => ⟨rfl, rfl⟩) ⟨rfl, rfl⟩ rfl
      · exact absurd ((hfalse j).symm.trans hD) (by simp)
      · obtain ⟨v1, v2⟩ := hvb k k1
        exact R1.own k ob (hget k ob v1 v2 g) hk
      · obtain ⟨v1, v2⟩ := hvb k k1
        obtain ⟨u1, u2⟩ := hvb k' k2
        exact R1.inj k k' o1 o2 (hget k o1 v1 v2 g1) (hget k' o2 u1 u2 g2)
  · cases e
end

inductive AEx where
  | normal
  | exit (id : Nat)
  | ret
def AEx.toExit : AEx → Exit
  | .normal => .normal
  | .exit id => .exit id
  | .ret => .ret
def AEx.jump : AEx → Option Code
  | .normal => none
  | .exit id => some (.exit id)
  | .ret => some .ret
def jumpEx : Option Code → Option AEx
  | none => some .normal
  | some .ret => some .ret
  | some (.exit id) => some (.exit id)
  | some _ => none

def markD (φ : Nat → Nat × Nat) (m : Nat) : Deferred := { target := .collected (φ m).1, args := #[] }

/- the record of a loop over a function: the block for its rounds' deferred calls, the marks, memory behind it -/
def aEnter (rd : Option Nat) (ms : List Nat) (h : AH) : Option (Nat × List Nat × AH) :=
  match rd with
  | none => some (h.next, h.next :: ms, h.new (.deferred true))
  | some l => match h.get l with
    | some (.loop r) => some (r.defers, ms, h)
    | _ => none

def aCode (P : Program) (call : CallF) (nt : Nat) (rd : Option Nat) : Nat → Code → Tr Value → List Nat → AH → Option (AEx × Tr Value × List Nat × AH)
  | 0, _, _, _, _ => none
  | _ + 1, .skip, t, ms, h => some (.normal, t, ms, h)
  | _ + 1, .region _ ops d, t, ms, h =>
    match (if d then aRegion P call nt ops t h else aRow P call nt ops ops.toList t h) with
    | some (t', h') => some (.normal, t', ms, h')
    | none => none
  | n + 1, .seq x y, t, ms, h =>
    match aCode P call nt rd n x t ms h with
    | some (.normal, t', ms', h') => aCode P call nt rd n y t' ms' h'
    | r => r
  | n + 1, .cond c x y, t, ms, h =>
    match aEnv t c with
    | some (.bool b) => aCode P call nt rd n (if b then x else y) t ms h
    | _ => none
  | n + 1, .block id c, t, ms, h =>
    match aCode P call nt rd n c t ms h with
    | some (.exit id', t', ms', h') => if id' = id then some (.normal, t', ms', h') else some (.exit id', t', ms', h')
    | r => r
  | n + 1, .loop c, t, ms, h =>
    match aCode P call nt rd n c t ms h with
    | some (.normal, t', ms', h') => aCode P call nt rd n (.loop c) t' ms' h'
    | r => r
  | _ + 1, .exit id, t, ms, h => some (.exit id, t, ms, h)
  | _ + 1, .ret, t, ms, h => some (.ret, t, ms, h)
  | _ + 1, .rangeFunc f ps assign body, t, ms, h =>
    match aEnv t f with
    | some (.func (.func g) first captured) =>
      match aEnter rd ms h with
      | some (dn, ms', h1) =>
        match call.fn g (first.toList ++ [.func (.yield h1.next) #[] #[]] ++ captured.toList) (h1.new (.loop ⟨.ready, none, t, nt, ps, assign, body, dn⟩)) with
        | some (_, h2) => match h2.get h1.next with
          | some (.loop r) => if r.state = .busy then none else match jumpEx r.pending with
            | some e => some (e, t, ms', h2.put h1.next (some (.loop { r with state := .exhausted })))
            | none => none
          | _ => none
        | none => none
      | none => none
    | _ => none
  | _ + 1, _, _, _, _ => none

section
variable {P : Program} {call : CallF} {nt : Nat} {rd : Option Nat}

theorem aEnter_grow {ms ms' : List Nat} {h h1 : AH} {dn : Nat} (hw : h.wlim ≤ h.next) (e : aEnter rd ms h = some (dn, ms', h1)) : Grow h h1 := by
  unfold aEnter at e
  split at e
  · simp only [Option.some.injEq, Prod.mk.injEq] at e; obtain ⟨_, _, rfl⟩ := e; exact grow_new hw _
  · split at e
    · simp only [Option.some.injEq, Prod.mk.injEq] at e; obtain ⟨_, _, rfl⟩ := e; exact Grow.refl _
    · cases e

theorem aCode_grow (C : CallOk P call) (nm : namesOk P = true) : ∀ (n : Nat) (c : Code) (t : Tr Value) (ms : List Nat) (h : AH) (e : AEx) (t' : Tr Value) (ms' : List Nat) (h' : AH), h.wlim ≤ h.next → aCode P call nt rd n c t ms h = some (e, t', ms', h') → Grow h h' := by
  intro n
  induction n with
  | zero => intro c t ms h e t' ms' h' _ he; simp [aCode] at he
  | succ n ih =>
    intro c t ms h e t' ms' h' hw he
    cases c with
    | skip => simp only [aCode, Option.some.injEq, Prod.mk.injEq] at he; obtain ⟨_, _, _, rfl⟩ := he; exact Grow.refl _
    | region id ops d =>
      simp only [aCode] at he
      split at he
      · rename_i t1 h1 hr
        simp only [Option.some.injEq, Prod.mk.injEq] at he
        obtain ⟨_, _, _, rfl⟩ := he
        cases d with
        | true => exact aRegion_grow C nm hw hr
        | false => exact aRow_grow C _ _ _ hw _ _ hr
      · cases he
    | seq x y =>
      simp only [aCode] at he
      split at he
      · rename_i t1 m1 h1 hx
        have g := ih _ _ _ _ _ _ _ _ hw hx
        exact g.trans (ih _ _ _ _ _ _ _ _ (g.wl hw) he)
      · exact ih _ _ _ _ _ _ _ _ hw he
    | cond c x y =>
      simp only [aCode] at he
      split at he
      · exact ih _ _ _ _ _ _ _ _ hw he
      · cases he
    | block id c =>
      simp only [aCode] at he
      split at he
      · rename_i id' t1 m1 h1 hx
        have g := ih _ _ _ _ _ _ _ _ hw hx
        split at he <;> (simp only [Option.some.injEq, Prod.mk.injEq] at he; obtain ⟨_, _, _, rfl⟩ := he; exact g)
      · exact ih _ _ _ _ _ _ _ _ hw he
    | loop c =>
      simp only [aCode] at he
      split at he
      · rename_i t1 m1 h1 hx
        have g := ih _ _ _ _ _ _ _ _ hw hx
        exact g.trans (ih _ _ _ _ _ _ _ _ (g.wl hw) he)
      · exact ih _ _ _ _ _ _ _ _ hw he
    | exit id => simp only [aCode, Option.some.injEq, Prod.mk.injEq] at he; obtain ⟨_, _, _, rfl⟩ := he; exact Grow.refl _
    | ret => simp only [aCode, Option.some.injEq, Prod.mk.injEq] at he; obtain ⟨_, _, _, rfl⟩ := he; exact Grow.refl _
    | rangeFunc f ps assign body =>
      simp only [aCode] at he
      split at he
      · split at he
        · rename_i dn m1 h1 hen
          have g1 := aEnter_grow hw hen
          split at he
          · rename_i u h2 hc
            have g2 := grow_new (g1.wl hw) (.loop ⟨.ready, none, t, nt, ps, assign, body, dn⟩)
            have g3 := C.grow _ _ _ _ _ (g2.wl (g1.wl hw)) hc
            have g := g1.trans (g2.trans g3)
            split at he
            · split at he
              · cases he
              · split at he
                · simp only [Option.some.injEq, Prod.mk.injEq] at he
                  obtain ⟨_, _, _, rfl⟩ := he
                  refine g.trans (grow_put ?_ _)
                  rw [g.wlim]
                  exact Nat.le_trans hw g1.next
                · cases he
            · cases he
          · cases he
        · cases he
      · cases he
    | _ => simp [aCode] at he

/- the round in which an activation is -/
def RdOK (φ : Nat → Nat × Nat) (N : Nat → Prop) (rd rc : Option Nat) : Prop :=
  match rd, rc with
  | none, none => True
  | some k, some c => N k ∧ (φ k).1 = c
  | _, _ => False
theorem RdOK.step {w0 w' : World} {φ φ' : Nat → Nat × Nat} {κ κ' : Nat → Nat} {h h' : AH} {rc : Option Nat} (r : RdOK φ h.N rd rc) (S : Step w0 φ κ h φ' κ' h' w') : RdOK φ' h'.N rd rc := by
  unfold RdOK at *
  cases rd <;> cases rc <;> first
    | exact r
    | exact ⟨S.sees r.1, by rw [(S.agree r.1).1]; exact r.2⟩
def MsOK (N : Nat → Prop) (ms : List Nat) : Prop := ∀ m ∈ ms, N m
theorem MsOK.step {w0 w' : World} {φ φ' : Nat → Nat × Nat} {κ κ' : Nat → Nat} {h h' : AH} {ms : List Nat} (r : MsOK h.N ms) (S : Step w0 φ κ h φ' κ' h' w') : MsOK h'.N ms ∧ ms.map (markD φ') = ms.map (markD φ) :=
  ⟨fun m hm => S.sees (r m hm), List.map_congr_left fun m hm => by unfold markD; rw [(S.agree (r m hm)).1]⟩

/- what a piece of code must leave -/
def CodeOK (P : Program) (call : CallF) (nt : Nat) (rd : Option Nat) (c : Code) : Prop :=
  ∀ (n : Nat) (t : Tr Value) (ms : List Nat) (h : AH) (e : AEx) (t' : Tr Value) (ms' : List Nat) (h' : AH), aCode P call nt rd n c t ms h = some (e, t', ms', h') →
    ∀ (Q : Exit → Act → World → Prop) (rc : Option Nat) w0 φ κ w a, Rel w0 φ κ h w → RdOK φ h.N rd rc → MsOK h.N ms → ARel φ κ h.N nt t (ms.map (markD φ)) a →
    (∀ φ' κ' w' a', Step w0 φ κ h φ' κ' h' w' → MsOK h'.N ms' → ARel φ' κ' h'.N nt t' (ms'.map (markD φ')) a' → Q e.toExit a' w') → c.wpIn (fen rc) 0 P Q a w

theorem ARel.ds {φ : Nat → Nat × Nat} {κ : Nat → Nat} {N : Nat → Prop} {t : Tr Value} {d d' : List Deferred} {a : Act} (A : ARel φ κ N nt t d a) (e : d = d') : ARel φ κ N nt t d' a := e ▸ A

theorem aLoop_sound {c : Code} (body : CodeOK P call nt rd c) {Q : Exit → Act → World → Prop} {rc : Option Nat} :
    ∀ (n : Nat) (t : Tr Value) (ms : List Nat) (h : AH) (e : AEx) (t' : Tr Value) (ms' : List Nat) (h' : AH), aCode P call nt rd n (.loop c) t ms h = some (e, t', ms', h') → ∀ w0 φ κ w a, Rel w0 φ κ h w → RdOK φ h.N rd rc → MsOK h.N ms → ARel φ κ h.N nt t (ms.map (markD φ)) a →
      (∀ φ' κ' w' a', Step w0 φ κ h φ' κ' h' w' → MsOK h'.N ms' → ARel φ' κ' h'.N nt t' (ms'.map (markD φ')) a' → Q e.toExit a' w') → Code.roundsIn (fen rc) 0 P c Q n a w := by
  intro n
  induction n with
  | zero => intro t ms h e t' ms' h' he; simp [aCode] at he
  | succ n ih =>
    intro t ms h e t' ms' h' he w0 φ κ w a R D M A hq
    rw [roundsIn_succ]
    simp only [aCode] at he
    split at he
    · rename_i t1 m1 h1 hx
      refine body n _ _ _ _ _ _ _ hx _ rc w0 φ κ w a R D M A fun φ1 κ1 w1 a1 S1 M1 A1 => ?_
      exact ih _ _ _ _ _ _ _ he w0 φ1 κ1 w1 a1 S1.rel (D.step S1) M1 A1 fun φ2 κ2 w2 a2 S2 M2 A2 => hq φ2 κ2 w2 a2 (S1.trans S2) M2 A2
    · rename_i hx
      refine body n _ _ _ _ _ _ _ he _ rc w0 φ κ w a R D M A fun φ1 κ1 w1 a1 S1 M1 A1 => ?_
      have := hq φ1 κ1 w1 a1 S1 M1 A1
      cases e with
      | normal => exact absurd he (hx t' ms' h')
      | exit id => exact this
      | ret => exact this

theorem run_getObj {w : World} {r : Nat} {o : Obj} (h : w.heap[r]? = some o) (hc : ∀ c e f, o ≠ .cells c e f) : (getObj r).run P w = .ok o w := by
  unfold getObj
  simp only [Sem.run, h] <;> (cases o <;> first | rfl | exact absurd rfl (hc _ _ _))
theorem run_setObj {w : World} {r : Nat} {o o' : Obj} (h : w.heap[r]? = some o) (hc : ∀ c e f, o ≠ .cells c e f) : (setObj r o').run P w = .ok () { w with heap := w.heap.setIfInBounds r o' } := by
  unfold setObj
  simp only [Sem.run, h] <;> (cases o <;> first | rfl | exact absurd rfl (hc _ _ _))
theorem run_getLoop {w : World} {r : Nat} {R : Loop} (h : w.heap[r]? = some (.loop R)) : (Instr.getLoop r).run P w = .ok R w := by
  unfold Instr.getLoop
  rw [Sem.run_bind, run_getObj h (by simp)]
  rfl

/- a loop's record written -/
theorem Rel.writeLoop {w0 w : World} {φ : Nat → Nat × Nat} {κ : Nat → Nat} {h : AH} (R : Rel w0 φ κ h w) {k : Nat} {r : ALoop} (g : h.get k = some (.loop r)) (hk : h.wlim ≤ k) (st : LoopState) (pd : Option Code) :
    ∃ Lr : Loop, w.heap[(φ k).1]? = some (.loop Lr) ∧ LoopOK φ κ h.N r Lr ∧ Step w0 φ κ h φ κ (h.put k (some (.loop { r with state := st, pending := pd }))) { w with heap := w.heap.setIfInBounds (φ k).1 (.loop { Lr with state := st, pending := pd }) } := by
  obtain ⟨h1, Lr, h2, h3⟩ := R.ent k _ g
  refine ⟨Lr, h2, h3, R.write g hk ⟨h1, { Lr with state := st, pending := pd }, ?_, ⟨rfl, rfl, h3.params, h3.assign, h3.body, h3.size, h3.get, h3.ok, h3.out, h3.defers, h3.dok⟩⟩⟩
  exact Array.getElem?_setIfInBounds_self_of_lt (Array.getElem?_eq_some_iff.1 h2).1

theorem enter_sound {w0 w : World} {φ : Nat → Nat × Nat} {κ : Nat → Nat} {h h1 : AH} {ms ms' : List Nat} {dn : Nat} {rc : Option Nat} {t : Tr Value} {a : Act} (fn : FuncId) (ps : Array Tmp) (x y : Code) (R : Rel w0 φ κ h w) (D : RdOK φ h.N rd rc) (M : MsOK h.N ms) (A : ARel φ κ h.N nt t (ms.map (markD φ)) a) (e : aEnter rd ms h = some (dn, ms', h1)) :
    ∃ φ' κ' w' mark, (Instr.enterLoop fn a.tmps ps x y (fen rc).round).run P w = .ok ((φ' h1.next).1, mark) w' ∧ Step w0 φ κ h φ' κ' (h1.new (.loop ⟨.ready, none, t, nt, ps, x, y, dn⟩)) w' ∧ MsOK (h1.new (.loop ⟨.ready, none, t, nt, ps, x, y, dn⟩)).N ms' ∧ mark ++ a.defers = ms'.map (markD φ') ∧ (h1.new (.loop ⟨.ready, none, t, nt, ps, x, y, dn⟩)).N h1.next := by
  -- laying the record
  have lay : ∀ {φ1 : Nat → Nat × Nat} {κ1 : Nat → Nat} {w1 : World} (S1 : Step w0 φ κ h φ1 κ1 h1 w1) (hdn : h1.N dn),
      Step w0 φ κ h (upd φ1 h1.next (w1.heap.size, 0)) (upd κ1 h1.next 0) (h1.new (.loop ⟨.ready, none, t, nt, ps, x, y, dn⟩)) { w1 with heap := w1.heap.push (.loop { state := .ready, pending := none, fn, tmps := a.tmps, params := ps, assign := x, body := y, defers := (φ1 dn).1 }), drawn := w1.drawn } := by
    intro φ1 κ1 w1 S1 hdn
    have A1 := A.step S1
    have hne : ∀ k, h1.sees k = true → k ≠ h1.next := fun k s e => by have := sees_lt s; omega
    refine S1.trans (S1.rel.push rfl ⟨by rw [upd_same], { state := .ready, pending := none, fn, tmps := a.tmps, params := ps, assign := x, body := y, defers := (φ1 dn).1 }, by rw [upd_same]; show (w1.heap.push _)[w1.heap.size]? = _; simp, ⟨rfl, rfl, rfl, rfl, rfl, A1.size, fun d hd => ?_, fun d => ?_, A1.out, ?_, new_sees hdn⟩⟩)
    · rw [ren_congr (N := h1.N) (fun k s => ⟨upd_ne _ _ (hne k s), upd_ne _ _ (hne k s)⟩) _ (A1.ok d)]
      exact A1.get d hd
    · exact ok_mono (fun _ s => new_sees s) (fun k s => upd_ne _ _ (hne k s)) _ (A1.ok d)
    · rw [upd_ne _ _ (hne dn hdn)]
  unfold aEnter at e
  split at e
  · simp only [Option.some.injEq, Prod.mk.injEq] at e
    obtain ⟨rfl, rfl, rfl⟩ := e
    have hrc : rc = none := by unfold RdOK at D; cases rc <;> simp_all
    subst hrc
    have S1 := R.push (o := .deferred true) (ob := .deferred (some [])) (p := (w.heap.size, 0)) (K := 0) (d := w.drawn) rfl ⟨by rw [upd_same], by rw [upd_same]; show (w.heap.push _)[w.heap.size]? = _; simp⟩
    have hself := new_sees_self (h := h) (o := .deferred true) R.hid
    have S2 := lay S1 hself
    have hb := S2.rel
    refine ⟨_, _, _, [{ target := .collected w.heap.size, args := #[] }], ?_, S2, ?_, ?_, new_sees_self S1.rel.hid⟩
    · unfold Instr.enterLoop
      simp only [fen, Fence.wide, newObj, Sem.run_bind, Sem.run, Result.andThen_ok, Sem.run_pure, upd_same, Array.size_push]
    · intro m hm
      rcases List.mem_cons.1 hm with hm | hm
      · subst hm; exact new_sees hself
      · exact new_sees (new_sees (M m hm))
    · rw [A.defers, List.map_cons]
      have h0 : (upd (upd φ h.next (w.heap.size, 0)) (h.new (.deferred true)).next ((w.heap.push (.deferred (some []))).size, 0) h.next) = (w.heap.size, 0) := by
        rw [upd_ne _ _ (by rw [new_next]; omega), upd_same]
      have h1 : ms.map (markD (upd (upd φ h.next (w.heap.size, 0)) (h.new (.deferred true)).next ((w.heap.push (.deferred (some []))).size, 0))) = ms.map (markD φ) := by
        apply List.map_congr_left
        intro m hm
        have := sees_lt (M m hm)
        unfold markD
        rw [upd_ne _ _ (by rw [new_next]; omega), upd_ne _ _ (by omega)]
      rw [h1]
      unfold markD
      rw [h0]
      rfl
  · rename_i l
    split at e
    · rename_i r g
      simp only [Option.some.injEq, Prod.mk.injEq] at e
      obtain ⟨rfl, rfl, rfl⟩ := e
      obtain ⟨c, rfl, hN, hc⟩ : ∃ c, rc = some c ∧ h.N l ∧ (φ l).1 = c := by
        unfold RdOK at D
        cases rc with
        | none => exact D.elim
        | some c => exact ⟨c, rfl, D.1, D.2⟩
      obtain ⟨g1, Lr, g2, g3⟩ := R.ent l _ g
      have S2 := lay R.step g3.dok
      refine ⟨_, _, _, [], ?_, S2, ?_, ?_, new_sees_self R.hid⟩
      · unfold Instr.enterLoop
        rw [hc] at g2
        simp only [fen, Fence.inRound, Sem.run_bind, run_getLoop g2, Result.andThen_ok, Sem.run_pure, newObj, Sem.run, upd_same, g3.defers]
      · intro m hm; exact new_sees (M m hm)
      · rw [A.defers, List.nil_append]
        apply List.map_congr_left
        intro m hm
        have := sees_lt (M m hm)
        unfold markD
        rw [upd_ne _ _ (by omega)]
    · cases e

theorem range_sound (nm : namesOk P = true) (C : CallOk P call) (f : Operand) (ps : Array Tmp) (x y : Code) : CodeOK P call nt rd (.rangeFunc f ps x y) := by
  intro n t ms h e t' ms' h' he Q rc w0 φ κ w a R D M A hq
  cases n with
  | zero => simp [aCode] at he
  | succ n =>
    simp only [aCode] at he
    split at he
    · rename_i g first captured hf
      obtain ⟨f1, f2⟩ := A.env f _ hf
      split at he
      · rename_i dn m1 h1 hen
        split at he
        · rename_i u h2 hc
          split at he
          · rename_i r hg
            split at he
            · cases he
            · rename_i hbusy
              split at he
              · rename_i e1 hj
                simp only [Option.some.injEq, Prod.mk.injEq] at he
                obtain ⟨rfl, rfl, rfl, rfl⟩ := he
                refine wpIn_rangeFunc fun fn _ => ?_
                obtain ⟨φ1, κ1, w1, mark, q1, S1, M1, q2, q3⟩ := enter_sound (P := P) fn ps x y R D M A hen
                obtain ⟨fn', body', hfn, hbody⟩ := C.body _ _ _ _ _ hc
                have hfr : ren φ1 κ1 (.func (.func g) first captured) = a.eval f := by rw [S1.ren f2, f1]
                have hargs : ((first.toList ++ [Value.func (.yield h1.next) #[] #[]] ++ captured.toList).map (ren φ1 κ1)).toArray = renA φ1 κ1 first ++ #[Value.func (.yield (φ1 h1.next).1) #[] #[]] ++ renA φ1 κ1 captured := by
                  rw [renA_map, renA_map]
                  apply Array.ext'
                  simp [ren, renF, renA, renL]
                refine ⟨_, _, _, { target := .fn (.func g) (renA φ1 κ1 captured), args := renA φ1 κ1 first ++ #[Value.func (.yield (φ1 h1.next).1) #[] #[]] }, w1, g, renA φ1 κ1 first ++ #[Value.func (.yield (φ1 h1.next).1) #[] #[]] ++ renA φ1 κ1 captured, w1, q1, ?_, fun f' _ => fen_fn rc f', ?_, fun hd => (by rw [fen_depth] at hd; cases hd), ?_⟩
                · unfold resolve rangeCall
                  have hfr' : a.eval f = .func (.func g) (renA φ1 κ1 first) (renA φ1 κ1 captured) := by rw [← hfr]; simp only [ren, renF]
                  have hmap : (#[Operand.const (.func (.yield (φ1 h1.next).1) #[] #[])] : Array Operand).map a.eval = #[Value.func (.yield (φ1 h1.next).1) #[] #[]] := by simp [Act.eval]
                  simp only [hfr', Deferred.ofValue]
                  rw [hmap]
                  rfl
                · simp only [invoke]
                  exact callFunc_run nm hfn hbody _ _
                · rw [← hargs]
                  have hok : ∀ v ∈ first.toList ++ [Value.func (.yield h1.next) #[] #[]] ++ captured.toList, okV (h1.new (.loop ⟨.ready, none, t, nt, ps, x, y, dn⟩)).N κ1 v := by
                    intro v hv
                    have f3 := S1.ok f2
                    simp only [okV] at f3
                    rcases List.mem_append.1 hv with hv | hv
                    · rcases List.mem_append.1 hv with hv | hv
                      · exact okA_iff.1 f3.2.1 v hv
                      · rw [List.mem_singleton] at hv
                        subst hv
                        simp only [okV, okF, okA, okL, and_true]
                        exact q3
                    · exact okA_iff.1 f3.2.2 v hv
                  refine calls_fen _ rc ((C.run _ _ _ _ _ hc w0 φ1 κ1 w1 S1.rel hok).mono ?_)
                  rintro en w3 ⟨φ3, κ3, rfl, S3, _⟩
                  have hl1 : h.wlim ≤ h1.next := by
                    have := aEnter_grow R.wl hen
                    exact Nat.le_trans R.wl this.next
                  have hw2 : h2.wlim ≤ h1.next := by rw [S3.wlim, S1.wlim]; exact hl1
                  obtain ⟨Lr, l1, l2, l3⟩ := S3.rel.writeLoop hg hw2 .exhausted r.pending
                  have hphi : (φ3 h1.next).1 = (φ1 h1.next).1 := by rw [(S3.agree q3).1]
                  have S13 := (S1.trans S3).trans l3
                  obtain ⟨M3, m3⟩ := MsOK.step M1 (S3.trans l3)
                  refine ⟨r.pending, { w3 with heap := w3.heap.setIfInBounds (φ3 h1.next).1 (.loop { Lr with state := .exhausted, pending := r.pending }) }, ?_, ?_⟩
                  · unfold Instr.endLoop
                    rw [hphi] at l1
                    rw [Sem.run_bind, run_getLoop l1]
                    simp only [Result.andThen_ok]
                    have hb : (Lr.state == LoopState.busy) = false := by
                      rw [l2.state]
                      simpa using hbusy
                    simp only [hb, Bool.false_eq_true, if_false, Sem.run_bind]
                    rw [run_setObj l1 (by simp), hphi]
                    simp only [Result.andThen_ok, Sem.run_pure, l2.pending]
                  · have A3 : ARel φ3 κ3 (h2.put h1.next (some (.loop { r with state := .exhausted, pending := r.pending }))).N nt t (m1.map (markD φ3)) { a with defers := mark ++ a.defers } := by
                      have A0 := A.step S13
                      exact ⟨by rw [m3, ← q2], A0.size, A0.get, A0.ok, A0.out⟩
                    have hQ := hq φ3 κ3 _ { a with defers := mark ++ a.defers } S13 M3 A3
                    cases hp : r.pending with
                    | none =>
                      rw [hp] at hj
                      simp only [jumpEx, Option.some.injEq] at hj
                      subst hj
                      rw [hp] at hQ
                      exact hQ
                    | some c =>
                      rw [hp] at hj
                      rw [hp] at hQ
                      cases c <;> simp only [jumpEx, Option.some.injEq] at hj <;> first
                        | (cases hj; done)
                        | (subst hj; exact wpIn_ret hQ)
                        | (subst hj; exact wpIn_exit hQ)
              · cases he
          · cases he
        · cases he
      · cases he
    · cases he

theorem aCode_sound (hm : P.follows .mixedOrders = true) (nm : namesOk P = true) (C : CallOk P call) : ∀ (c : Code), CodeOK P call nt rd c := by
  intro c
  induction c with
  | skip =>
    intro n t ms h e t' ms' h' he Q rc w0 φ κ w a R D M A hq
    cases n with
    | zero => simp [aCode] at he
    | succ n =>
      simp only [aCode, Option.some.injEq, Prod.mk.injEq] at he
      obtain ⟨rfl, rfl, rfl, rfl⟩ := he
      exact wpIn_skip (hq φ κ w a R.step M A)
  | region id ops d =>
    intro n t ms h e t' ms' h' he Q rc w0 φ κ w a R D M A hq
    cases n with
    | zero => simp [aCode] at he
    | succ n =>
      simp only [aCode] at he
      split at he
      · rename_i t1 h1 hr
        simp only [Option.some.injEq, Prod.mk.injEq] at he
        obtain ⟨rfl, rfl, rfl, rfl⟩ := he
        have hq' : ∀ φ' κ' w' a', Step w0 φ κ h φ' κ' h1 w' → ARel φ' κ' h1.N nt t1 (ms.map (markD φ)) a' → Q .normal a' w' := by
          intro φ' κ' w' a' S A'
          obtain ⟨M', m'⟩ := M.step S
          exact hq φ' κ' w' a' S M' (A'.ds m'.symm)
        cases d with
        | true => exact aRegion_sound hm nm C hr R A hq'
        | false => exact wpIn_region_list (aRow_sound nm C _ _ _ _ _ hr w0 φ κ w a R A hq')
      · cases he
  | seq x y ihx ihy =>
    intro n t ms h e t' ms' h' he Q rc w0 φ κ w a R D M A hq
    cases n with
    | zero => simp [aCode] at he
    | succ n =>
      simp only [aCode] at he
      refine wpIn_seq ?_
      split at he
      · rename_i t1 m1 h1 hx
        refine ihx _ _ _ _ _ _ _ _ hx _ rc w0 φ κ w a R D M A fun φ1 κ1 w1 a1 S1 M1 A1 => ?_
        exact ihy _ _ _ _ _ _ _ _ he _ rc w0 φ1 κ1 w1 a1 S1.rel (D.step S1) M1 A1 fun φ2 κ2 w2 a2 S2 M2 A2 => hq φ2 κ2 w2 a2 (S1.trans S2) M2 A2
      · rename_i hx
        refine ihx _ _ _ _ _ _ _ _ he _ rc w0 φ κ w a R D M A fun φ1 κ1 w1 a1 S1 M1 A1 => ?_
        have := hq φ1 κ1 w1 a1 S1 M1 A1
        cases e with
        | normal => exact absurd he (hx t' ms' h')
        | exit id => exact this
        | ret => exact this
  | cond c x y ihx ihy =>
    intro n t ms h e t' ms' h' he Q rc w0 φ κ w a R D M A hq
    cases n with
    | zero => simp [aCode] at he
    | succ n =>
      simp only [aCode] at he
      split at he
      · rename_i b hb
        have hc := (A.env c _ hb).1
        simp only [ren] at hc
        refine wpIn_cond hc ?_
        cases b with
        | true => exact ihx _ _ _ _ _ _ _ _ he _ rc w0 φ κ w a R D M A hq
        | false => exact ihy _ _ _ _ _ _ _ _ he _ rc w0 φ κ w a R D M A hq
      · cases he
  | block id c ih =>
    intro n t ms h e t' ms' h' he Q rc w0 φ κ w a R D M A hq
    cases n with
    | zero => simp [aCode] at he
    | succ n =>
      simp only [aCode] at he
      refine wpIn_block ?_
      split at he
      · rename_i id' t1 m1 h1 hx
        refine ih _ _ _ _ _ _ _ _ hx _ rc w0 φ κ w a R D M A fun φ1 κ1 w1 a1 S1 M1 A1 => ?_
        simp only [AEx.toExit, Exit.inBlock]
        split at he
        · rename_i hid
          simp only [Option.some.injEq, Prod.mk.injEq] at he
          obtain ⟨rfl, rfl, rfl, rfl⟩ := he
          rw [if_pos hid]
          exact hq φ1 κ1 w1 a1 S1 M1 A1
        · rename_i hid
          simp only [Option.some.injEq, Prod.mk.injEq] at he
          obtain ⟨rfl, rfl, rfl, rfl⟩ := he
          rw [if_neg hid]
          exact hq φ1 κ1 w1 a1 S1 M1 A1
      · rename_i hx
        refine ih _ _ _ _ _ _ _ _ he _ rc w0 φ κ w a R D M A fun φ1 κ1 w1 a1 S1 M1 A1 => ?_
        have := hq φ1 κ1 w1 a1 S1 M1 A1
        cases e with
        | normal => exact this
        | exit id => exact absurd he (hx id t' ms' h')
        | ret => exact this
  | loop c ih =>
    intro n t ms h e t' ms' h' he Q rc w0 φ κ w a R D M A hq
    exact wpIn_loop_rounds n (aLoop_sound ih n t ms h e t' ms' h' he w0 φ κ w a R D M A hq)
  | exit id =>
    intro n t ms h e t' ms' h' he Q rc w0 φ κ w a R D M A hq
    cases n with
    | zero => simp [aCode] at he
    | succ n =>
      simp only [aCode, Option.some.injEq, Prod.mk.injEq] at he
      obtain ⟨rfl, rfl, rfl, rfl⟩ := he
      exact wpIn_exit (hq φ κ w a R.step M A)
  | ret =>
    intro n t ms h e t' ms' h' he Q rc w0 φ κ w a R D M A hq
    cases n with
    | zero => simp [aCode] at he
    | succ n =>
      simp only [aCode, Option.some.injEq, Prod.mk.injEq] at he
      obtain ⟨rfl, rfl, rfl, rfl⟩ := he
      exact wpIn_ret (hq φ κ w a R.step M A)
  | rangeFunc f ps x y _ _ => exact range_sound nm C f ps x y
  | _ =>
    intro n t ms h e t' ms' h' he
    cases n <;> simp [aCode] at he
end
end Go.Ev
