/-
  Walks on memory by names: loops over functions.
-/
import Derived.Test.YthoigkgjidcklaaMd
set_option linter.unusedSimpArgs false
set_option linter.unusedVariables false
namespace Go.Vm
open Go Go.RowKit

/-- Beyond what is in use, names mean what they meant. -/
theorem Stb.fix {w0 w' : World} {φ φ' : Nat → Nat × Nat} {κ κ' : Nat → Nat} {h h' : AH} (S : Stb h.next w0 φ κ h φ' κ' h' w') : Step w0 φ κ h (fun k => if k < h'.next then φ' k else φ k) (fun k => if k < h'.next then κ' k else κ k) h' w' := by
  have hag : ∀ k, h'.N k → (if k < h'.next then φ' k else φ k) = φ' k ∧ (if k < h'.next then κ' k else κ k) = κ' k := fun k hk => ⟨if_pos (sees_lt hk), if_pos (sees_lt hk)⟩
  refine ⟨fun k hk => ?_, ⟨S.rel.below, S.rel.hid, S.rel.wl, fun k o g => ?_, fun k o g hr hk => ?_, fun k k' o o' g g' hr hr' hk e => ?_⟩, S.next, S.hid, S.wlim, S.keep⟩
  · by_cases h2 : k < h'.next
    · have h3 : k < h.next := by omega
      simp only [if_pos h2]
      exact S.agr k h3
    · simp only [if_neg h2, and_self]
  · exact (S.rel.ent k o g).move (fun _ x => x) hag (hag k (get_sees g)) fun _ => rfl
  · show w0.heap.size ≤ (if k < h'.next then φ' k else φ k).1
    rw [(hag k (get_sees g)).1]; exact S.rel.own k o g (rl_congr (hag k (get_sees g)).2 hr) hk
  · have e' : (if k < h'.next then φ' k else φ k).1 = (if k' < h'.next then φ' k' else φ k').1 := e
    rw [(hag k (get_sees g)).1, (hag k' (get_sees g')).1] at e'
    exact S.rel.inj k k' o o' g g' (rl_congr (hag k (get_sees g)).2 hr) (rl_congr (hag k' (get_sees g')).2 hr') hk e'

/-- What a round's body leaves. -/
def YboQ (k : Nat) (v : Value) (h' : AH) (e : AEx) (_ : Tr Value) (_ : List Nat) (h2 : AH) : Prop :=
  ∃ r2, h2.get k = some (.loop r2) ∧ v = .bool (isNormal e) ∧ h' = h2.put k (some (.loop { r2 with state := if isNormal e then .ready else .done, pending := e.jump }))
/-- What a round's assignment leaves. -/
def YasQ (P : Program) (nt k b : Nat) (body : Code) (v : Value) (h' : AH) (e : AEx) (t1 : Tr Value) (ms1 : List Nat) (h1 : AH) : Prop :=
  e = .normal ∧ ∃ r1, h1.get k = some (.loop r1) ∧ r1.state = .ready ∧ Tri P nt (some k) b body t1 ms1 (h1.put k (some (.loop { r1 with state := .busy }))) (YboQ k v h')

theorem Yl.intro {P : Program} {k : Nat} {args : List Value} {h h' : AH} {v : Value} {r : ALoop} {t0 : Tr Value} (g : h.get k = some (.loop r)) (hps : r.params.size = args.length) (hk : h.wlim ≤ k)
    (hput : aPuts r.nt (r.params.toList.zip args) r.t = some t0) (hgr : h.wlim ≤ h.next → Grow h h') (T : Tri P r.nt (some k) h.next r.assign t0 [] h (YasQ P r.nt k h.next r.body v h')) : Yl P k args h v h' := by
  refine ⟨hgr, fun w0 φ κ w R ha => ?_⟩
  obtain ⟨p1, Lr, p2, p3⟩ := R.ent k _ g
  have hNk : h.N k := get_sees g
  have hlt : k < h.next := sees_lt hNk
  refine ⟨Lr.fn, (Lr.params.zip (args.map (ren φ κ)).toArray).foldl (fun tmps (t, a) => tmps.setIfInBounds t a) Lr.tmps, Lr.assign, Lr.body, ?_, ?_⟩
  · unfold Instr.yield
    rw [Sem.run_bind, run_getLoop p2]
    simp only [Result.andThen_ok]
    rw [if_neg (by rw [p3.params]; simp [hps])]
    rfl
  · have A0 : ARel φ κ h.N r.nt r.t [] { tmps := Lr.tmps, defers := [] } := ⟨rfl, p3.size, p3.get, p3.ok⟩
    have A1 := aPuts_sound _ _ _ _ hput A0 (fun p hp => ha _ (List.of_mem_zip hp).2)
    have htm : ((r.params.toList.zip args).map fun p => (p.1, ren φ κ p.2)).foldl (fun tmps (p : Tmp × Value) => tmps.setIfInBounds p.1 p.2) Lr.tmps = (Lr.params.zip (args.map (ren φ κ)).toArray).foldl (fun tmps (t, a) => tmps.setIfInBounds t a) Lr.tmps := by
      rw [← Array.foldl_toList, Array.toList_zip, p3.params, List.zip_map_right]
      congr 1
    rw [htm] at A1
    refine roundIn_of_wpIn trivial ?_
    rw [p3.assign]
    refine T _ (some (φ k).1) w0 φ κ w _ (Nat.le_refl _) R ⟨hNk, rfl⟩ (fun m hm => by cases hm) A1 ?_
    rintro e t1 ms1 h1 φ1 κ1 w1 a1 ⟨rfl, r1, g1, hst, T2⟩ S1 D1 M1 A2
    have hk1 : h1.wlim ≤ k := by rw [S1.wlim]; exact hk
    obtain ⟨L1, u1, u2, u3⟩ := S1.rel.writeLoop g1 hk1 .busy r1.pending
    have hphi1 : (φ1 k).1 = (φ k).1 := by rw [(S1.agr k hlt).1]
    have hrec1 : ({ L1 with state := .busy } : Loop) = { L1 with state := .busy, pending := r1.pending } := by rw [← u2.pending]
    refine ⟨{ w1 with heap := w1.heap.setIfInBounds (φ1 k).1 (.loop { L1 with state := .busy, pending := r1.pending }) }, ?_, ?_⟩
    · unfold Instr.beginRound
      rw [hphi1] at u1 ⊢
      rw [Sem.run_bind, run_getLoop u1]
      simp only [Result.andThen_ok, Sem.run_bind]
      rw [run_setObj u1 (by simp), hrec1]
      simp only [Result.andThen_ok, u2.state, hst]
      rfl
    · rw [p3.body]
      obtain ⟨M2, m2⟩ := MsOK.step M1 u3
      refine T2 _ (some (φ k).1) w0 φ1 κ1 _ a1 (by rw [put_next]; exact S1.next) u3.rel ⟨by rw [put_N]; exact get_sees g1, hphi1⟩ M2 ((A2.step u3).ds m2.symm) ?_
      rintro ex t2 ms2 h2 φ3 κ3 w3 a3 ⟨r2, g2, rfl, rfl⟩ S3 D3 M3 A3
      have S13 : Stb h.next w0 φ κ h φ3 κ3 h2 w3 := (S1.trans (Stb.of u3 S1.next)).trans S3
      have hk2 : h2.wlim ≤ k := by rw [S13.wlim]; exact hk
      have hphi3 : (φ3 k).1 = (φ k).1 := by rw [(S13.agr k hlt).1]
      have fin : ∀ (st : LoopState) (pd : Option Code) (b : Bool), (if pd.isNone then LoopState.ready else LoopState.done) = st → pd.isNone = b → ∃ v w', (Instr.endRound (φ k).1 pd).run P w3 = .ok v w' ∧ (∃ φ' κ', Ending.returned v = .returned (ren φ' κ' (.bool b)) ∧ Step w0 φ κ h φ' κ' (h2.put k (some (.loop { r2 with state := st, pending := pd }))) w' ∧ okV (h2.put k (some (.loop { r2 with state := st, pending := pd }))).N κ' (.bool b)) := by
        intro st pd b h1' h2'
        obtain ⟨L3, x1, x2, x3⟩ := S13.rel.writeLoop g2 hk2 st pd
        refine ⟨_, _, ?_, _, _, rfl, (S13.trans (Stb.of x3 S13.next)).fix, by simp [okV]⟩
        unfold Instr.endRound
        rw [hphi3] at x1 ⊢
        rw [Sem.run_bind, run_getLoop x1]
        simp only [Result.andThen_ok, Sem.run_bind]
        rw [run_setObj x1 (by simp), h1', h2']
        rfl
      cases ex with
      | normal => exact fin .ready none true rfl rfl
      | ret => exact fin .done (some .ret) false rfl rfl
      | exit id => exact fin .done (some (.exit id)) false rfl rfl

/- the same, code written out -/
def putsF (nt : Nat) : List (Nat × Value) → Fr → Option Fr
  | [], l => some l
  | (d, v) :: r, l => if d < nt then putsF nt r ((d, v) :: l) else none
theorem putsF_eq {nt : Nat} : ∀ {ps : List (Nat × Value)} {l l' : Fr}, putsF nt ps l = some l' → aPuts nt ps (trOf l) = some (trOf l')
  | [], l, l', e => by simp only [putsF, Option.some.injEq] at e; subst e; rfl
  | (d, v) :: r, l, l', e => by
    simp only [putsF] at e
    split at e
    · rename_i hd
      simp only [aPuts, aPut, if_pos hd]
      exact putsF_eq (l := (d, v) :: l) e
    · cases e
/-- What a round's body leaves. -/
def YbQ (k : Nat) (v : Value) (h' : AH) (e : AEx) (_ : Fr) (_ : List Nat) (h2 : AH) : Prop :=
  ∃ r2, h2.get k = some (.loop r2) ∧ v = .bool (isNormal e) ∧ h' = h2.put k (some (.loop { r2 with state := if isNormal e then .ready else .done, pending := e.jump }))
/-- What a round's assignment leaves. -/
def YaQ (P : Program) (nt k b : Nat) (ay : IC) (v : Value) (h' : AH) (e : AEx) (l1 : Fr) (ms1 : List Nat) (h1 : AH) : Prop :=
  e = .normal ∧ ∃ r1, h1.get k = some (.loop r1) ∧ r1.state = .ready ∧ ITri P nt (some k) b ay l1 ms1 (h1.put k (some (.loop { r1 with state := .busy }))) (YbQ k v h')
theorem Yl.introI {P : Program} {k nt dn : Nat} {args : List Value} {h h' : AH} {v : Value} {px : Array Tmp} {ps : List Nat} {x y : Code} {ax ay : IC} {pd : Option Code} {lf l0 : Fr} (g : h.get k = some (.loop ⟨.ready, pd, trOf lf, nt, px, x, y, dn⟩)) (hpx : px.toList = ps) (hx : rC P nt x = some ax.er) (hy : rC P nt y = some ay.er) (hps : ps.length = args.length) (hk : h.wlim ≤ k)
    (hput : putsF nt (ps.zip args) lf = some l0) (hgr : h.wlim ≤ h.next → Grow h h') (T : ITri P nt (some k) h.next ax l0 [] h (YaQ P nt k h.next ay v h')) : Yl P k args h v h' := by
  subst hpx
  refine Yl.intro g (by simpa using hps) hk (putsF_eq hput) hgr ((T x (.inl hx)).mono ?_)
  rintro e t1 ms1 h1 ⟨l1, rfl, rfl, r1, g1, h2, T2⟩
  refine ⟨rfl, r1, g1, h2, (T2 y (.inl hy)).mono ?_⟩
  rintro e t2 ms2 h3 ⟨l2, rfl, r2, q1, q2, q3⟩
  exact ⟨r2, q1, q2, q3⟩

/-- How a function ends that has marks. -/
def EndM (P : Program) (rs : List ResultVar) (n : Nat) (os : List AObj) (v : Value) (e : AEx) (l : Fr) (ms : List Nat) (h1 : AH) : Prop := ∃ h2, aMarks ms h1 = some h2 ∧ EndR P rs n os v e l [] h2

theorem endR_fin {P : Program} {fn : Func} {os : List AObj} {v : Value} {l' : Fr} {h h1 : AH} {w0 w w1 : World} {φ φ1 : Nat → Nat × Nat} {κ κ1 : Nat → Nat} {a1 : Act} {vs : List Value} {σL : List Nat} {ξL : List (Nat × Xi)} (R : Rel w0 φ κ h w) (hid : h.hid = []) (hw : h.wlim = h.next)
    (q2 : resF P l' h1 fn.results.toList = some vs) (q3 : σL.length = os.length) (q4 : σL.Nodup) (q5 : ∀ s ∈ σL, h.next ≤ s) (q6 : ∀ p ∈ ξL, h.next ≤ p.1 ∧ p.2.ok) (q7 : packV vs = mv (fun k => if k < h.next then k else σL.getD (k - h.next) 0) (xiL ξL) v) (q8 : okM (xiL ξL) (h.next + os.length) v)
    (q9 : ∀ i o2, os[i]? = some o2 → (xiL ξL (h.next + i) = .nil ∧ nilO o2) ∨ (xiL ξL (h.next + i) ≠ .nil ∧ ∃ o, h1.get (σL.getD i 0) = some o ∧ OM (fun k => if k < h.next then k else σL.getD (k - h.next) 0) (xiL ξL) (h.next + os.length) (h.next + i) o o2))
    {ds : List Deferred} (S : Stb h.next w φ κ h φ1 κ1 h1 w1) (A1 : ARel φ1 κ1 h1.N fn.ntmps (trOf l') ds a1) :
    ∃ u, (results fn a1.tmps).run P w1 = .ok u w1 ∧ (fun e w' => ∃ φ' κ', e = Ending.returned (ren φ' κ' v) ∧ Step w0 φ κ h φ' κ' (h.news os) w' ∧ okV (h.news os).N κ' v) (.returned u) w1 := by
  obtain ⟨r1, r2⟩ := results_sound (P := P) (fn := fn) (l := vs) A1 S.rel (by rw [resF_eq]; exact q2)
  refine ⟨_, r1, ?_⟩
  let σ : Nat → Nat := fun k => if k < h.next then k else σL.getD (k - h.next) 0
  have hroom : ∀ k, (xiL ξL k).ok := xiL_ok fun p hp => (q6 p hp).2
  have hlow : ∀ k, k < h.next → xiL ξL k = .same := fun k hk => xiL_low (fun p hp => (q6 p hp).1) hk
  let φ3 : Nat → Nat × Nat := fun k => if k < h.next + os.length then phi2 φ1 σ (xiL ξL) k else φ k
  let κ3 : Nat → Nat := fun k => if k < h.next + os.length then kap2 κ1 σ (xiL ξL) k else κ k
  have hnx : (h.news os).next = h.next + os.length := news_next _ _
  have hN : ∀ k, k < h.next + os.length → (h.news os).N k := fun k hk => by
    show AH.sees _ _ = true
    unfold AH.sees
    rw [news_hid, hid, hnx]
    simpa using hk
  have hag : ∀ k, (h.news os).N k → φ3 k = phi2 φ1 σ (xiL ξL) k ∧ κ3 k = kap2 κ1 σ (xiL ξL) k := fun k hk => by
    have := sees_lt hk
    rw [hnx] at this
    exact ⟨if_pos this, if_pos this⟩
  have hold : ∀ k, k < h.next → φ3 k = φ k ∧ κ3 k = κ k := by
    intro k hk
    obtain ⟨a1, a2⟩ := S.agr k hk
    have hs : σ k = k := if_pos hk
    have e1 : φ3 k = phi2 φ1 σ (xiL ξL) k := if_pos (by omega)
    have e2 : κ3 k = kap2 κ1 σ (xiL ξL) k := if_pos (by omega)
    rw [e1, e2]
    rw [phi2_eq (by rw [hlow k hk]; simp)]
    unfold kap2
    rw [hs, hlow k hk]
    exact ⟨a1, a2⟩
  have hb := S.rel.below
  have hwl1 : h1.wlim = h.next := S.wlim.trans hw
  have hv : okV (h.news os).N (kap2 κ1 σ (xiL ξL)) v := ok_mv hroom hN v (by rw [← q7]; exact r2) q8
  -- an object that is new
  have new : ∀ k o, (h.news os).get k = some o → ¬ k < h.next → entOK (phi2 φ1 σ (xiL ξL)) (kap2 κ1 σ (xiL ξL)) (h.news os).N w1 k o ∧ (rl κ3 k o → ∃ o1, phi2 φ1 σ (xiL ξL) k = φ1 (σ k) ∧ h1.get (σ k) = some o1 ∧ rl κ1 (σ k) o1 ∧ h.next ≤ σ k ∧ k - h.next < σL.length ∧ σ k = σL.getD (k - h.next) 0) := by
    intro k o g hk
    have hs' := get_sees g
    rw [news_get R.hid, if_neg hk] at g
    have hlt := (List.getElem?_eq_some_iff.1 g).1
    have hs : σ k = σL.getD (k - h.next) 0 := if_neg hk
    have q := q9 _ _ g
    rw [show h.next + (k - h.next) = k from by omega] at q
    have e2 : κ3 k = kap2 κ1 σ (xiL ξL) k := (hag k hs').2
    rcases q with ⟨hx, m1⟩ | ⟨hx, o1, g1, m1⟩
    · have hz : kap2 κ1 σ (xiL ξL) k = 0 := by unfold kap2; rw [hx]
      exact ⟨m1.ent hz, fun hr => absurd hr (m1.rl (by rw [e2]; exact hz))⟩
    · have E1 := S.rel.ent _ _ g1
      rw [← hs] at E1 g1
      refine ⟨m1.ent hroom hN hx E1, fun hr => ⟨o1, phi2_eq hx, g1, m1.rl (rl_congr e2 hr), ?_, by omega, hs⟩⟩
      rw [hs, List.getD_eq_getElem?_getD, List.getElem?_eq_getElem (by omega)]
      exact q5 _ (List.getElem_mem _)
  refine ⟨φ3, κ3, ?_, ⟨fun k hk => ?_, ⟨R.below.trans (hb.mono R.below.size), fun p hp => (by rw [news_hid, hid] at hp; cases hp), by rw [news_wlim, hnx]; omega, fun k o g => ?_, fun k o g hr hk => ?_, fun k k' o o' g g' hr hr' hk e => ?_⟩, by omega, news_hid _ _, news_wlim _ _, fun k hk => news_tr _ _ _ (by omega)⟩, ok_mono (fun _ x => x) (fun k hk => (hag k hk).2) v hv⟩
  · rw [q7, ren_mv hroom v q8, ren_congr hag v hv]
  · rw [hnx] at hk
    by_cases h1 : k < h.next
    · exact hold k h1
    · exact ⟨if_neg (by omega), if_neg (by omega)⟩
  · by_cases h1 : k < h.next
    · rw [news_get R.hid, if_pos h1] at g
      have E := R.ent k o g
      exact E.move (fun j s => news_N _ s) (fun j s => hold j (sees_lt s)) (hold k h1) (fun hr => hb.block _ (E.lt hr))
    · obtain ⟨E, _⟩ := new k o g h1
      exact E.move (fun _ x => x) hag (hag k (get_sees g)) fun _ => rfl
  · rw [news_wlim, hw] at hk
    obtain ⟨o1, p1, g1, r1, g2, _⟩ := (new k o g (by omega)).2 hr
    rw [(hag k (get_sees g)).1]
    have := S.rel.own _ _ g1 r1 (by rw [hwl1]; exact g2)
    rw [p1]
    have := R.below.size
    omega
  · rw [news_wlim, hw] at hk
    obtain ⟨o1, p1, g1, r1, g2, g3, g4⟩ := (new k o g (by omega)).2 hr
    rw [(hag k (get_sees g)).1] at e
    by_cases h1 : k' < h.next
    · rw [news_get R.hid, if_pos h1] at g'
      rw [(hold k' h1).1] at e
      have := S.rel.own _ _ g1 r1 (by rw [hwl1]; exact g2)
      have := (R.ent k' o' g').lt (rl_congr (hold k' h1).2 hr')
      rw [p1] at e
      omega
    · obtain ⟨o1', p1', g1', r1', g2', g3', g4'⟩ := (new k' o' g' h1).2 hr'
      rw [(hag k' (get_sees g')).1, p1, p1'] at e
      have := S.rel.inj _ _ _ _ g1 g1' r1 r1' (by rw [hwl1]; exact g2) e
      rw [g4, g4', List.getD_eq_getElem?_getD, List.getD_eq_getElem?_getD, List.getElem?_eq_getElem g3, List.getElem?_eq_getElem g3'] at this
      have := (List.getElem?_inj g3 q4).1 ((List.getElem?_eq_getElem g3).trans ((congrArg some this).trans (List.getElem?_eq_getElem g3').symm))
      omega

theorem Fc.introM {P : Program} {f nt : Nat} {ic : IC} {rs : List ResultVar} {args : List Value} {h : AH} {os : List AObj} {v : Value} (F : FnIs P f ic nt rs) (hl : args.length ≤ nt) (hid : h.hid = []) (hw : h.wlim = h.next)
    (T : ITri P nt none h.next ic (argF 0 args) [] h (EndM P rs h.next os v)) : Fc P f args h v (h.news os) := by
  obtain ⟨fn, body, hf, hb, hnt, hrs, hic⟩ := F.ex
  subst hnt hrs
  refine ⟨fun hw => news_grow hw _, ⟨fn, body, hf, hb⟩, fun w0 φ κ w R ha => ?_⟩
  refine callsIn_wide.1 (callsIn_of_wp_marks (F := Fence.wide) (n := 0) hf hb trivial ?_ rfl)
  have A0 : ARel φ κ h.N fn.ntmps (trOf (argF 0 args)) [] { tmps := (args.map (ren φ κ)).toArray ++ Array.replicate (fn.ntmps - (args.map (ren φ κ)).toArray.size) undef, defers := [] } := by
    refine ⟨rfl, by simp; omega, fun d v hd => ?_, fun d v hd => ?_⟩
    · rw [trOf_get, argF_get] at hd
      split at hd
      · rename_i hlt
        rw [Array.getElem?_append_left (by simp; omega)]
        rw [Nat.sub_zero] at hd
        simp [hd]
      · cases hd
    · rw [trOf_get, argF_get] at hd
      split at hd
      · exact ha _ (List.mem_of_getElem? hd)
      · cases hd
  have R0 : Rel w φ κ h w := ⟨Below.refl _ _, R.hid, R.wl, R.ent, fun k o g _ hk => (by have := sees_lt (get_sees g); omega), R.inj⟩
  refine T body (.inl hic) _ none w φ κ w _ (Nat.le_refl _) R0 trivial (fun m hm => by cases hm) A0 ?_
  rintro e t' ms' h1 φ1 κ1 w1 a1 ⟨l', rfl, h2, q0, q1, _, vs, σL, ξL, q2, q3, q4, q5, q6, q7, q8, q9⟩ S D1 M1 A1
  have hfin : LeavesInM Fence.wide 0 P fn a1.tmps (fun e w' => ∃ φ' κ', e = .returned (ren φ' κ' v) ∧ Step w0 φ κ h φ' κ' (h.news os) w' ∧ okV (h.news os).N κ' v) a1.defers .returning w1 := by
    rw [A1.defers]
    refine aMarks_sound ms' h1 h2 q0 w φ1 κ1 w1 S.rel M1 fun w2 S2 => ?_
    have S3 := S.trans (Stb.of S2 S.next)
    obtain ⟨u, r1, r2⟩ := endR_fin (w0 := w0) R hid hw q2 q3 q4 q5 q6 q7 q8 q9 S3 (A1.step S2)
    exact ⟨u, r1, r2⟩
  cases e with
  | normal => exact hfin
  | ret => exact hfin
  | exit id => exact absurd rfl (q1 id)

/- a loop over a function within a plain loop: each round leaves a mark -/
mutual
/-- Names below B keep themselves. -/
theorem mv_low {σ : Nat → Nat} {B : Nat} (hs : ∀ k, k < B → σ k = k) : ∀ (v : Value), okM (fun _ => .same) B v → mv σ (fun _ => .same) v = v
  | .pointer none, _ => rfl
  | .pointer (some a), m => by simp only [okM] at m; simp only [mv, hs _ m.1]
  | .slice none _ _, _ => rfl
  | .slice (some a) n c, m => by simp only [okM] at m; simp only [mv, mvS, hs _ m.1]
  | .map none, _ => rfl
  | .map (some r), m => by simp only [okM] at m; simp only [mv, hs _ m.1]
  | .func fn first captured, m => by
    simp only [okM] at m
    simp only [mv, mvA_low hs first m.2.1, mvA_low hs captured m.2.2]
    congr 1
    cases fn with
    | yield k => simp only [mvF, hs _ m.1.1]
    | _ => rfl
  | .iface _ v, m => by simp only [okM] at m; simp only [mv, mv_low hs v m]
  | .agg cs, m => by simp only [okM] at m; simp only [mv, mvA_low hs cs m]
  | .tuple cs, m => by simp only [okM] at m; simp only [mv, mvA_low hs cs m]
  | .chan _, _ => by simp [mv]
  | .bool _, _ => by simp [mv]
  | .int _ _, _ => by simp [mv]
  | .float _ _, _ => by simp [mv]
  | .complex _ _ _, _ => by simp [mv]
  | .string _, _ => by simp [mv]
  | .nilFunc, _ => by simp [mv]
  | .nilIface, _ => by simp [mv]
theorem mvA_low {σ : Nat → Nat} {B : Nat} (hs : ∀ k, k < B → σ k = k) : ∀ (a : Array Value), okMA (fun _ => .same) B a → mvA σ (fun _ => .same) a = a
  | ⟨l⟩, m => by simp only [okMA] at m; simp only [mvA, mvL_low hs l m]
theorem mvL_low {σ : Nat → Nat} {B : Nat} (hs : ∀ k, k < B → σ k = k) : ∀ (l : List Value), okML (fun _ => .same) B l → mvL σ (fun _ => .same) l = l
  | [], _ => rfl
  | v :: r, m => by simp only [okML] at m; simp only [mvL, mv_low hs v m.1, mvL_low hs r m.2]
end
mutual
theorem okM_le {ξ : Nat → Xi} {B B' : Nat} (hb : B ≤ B') : ∀ (v : Value), okM ξ B v → okM ξ B' v
  | .pointer none, _ => trivial
  | .pointer (some a), m => by simp only [okM] at m ⊢; exact ⟨by omega, m.2⟩
  | .slice none _ _, _ => trivial
  | .slice (some a) n c, m => by simp only [okM] at m ⊢; exact ⟨by omega, m.2⟩
  | .map none, _ => trivial
  | .map (some r), m => by simp only [okM] at m ⊢; exact ⟨by omega, m.2⟩
  | .func fn first captured, m => by
    simp only [okM] at m ⊢
    refine ⟨?_, okMA_le hb first m.2.1, okMA_le hb captured m.2.2⟩
    cases fn with
    | yield k => exact ⟨by have := m.1.1; omega, m.1.2⟩
    | _ => trivial
  | .iface _ v, m => by simp only [okM] at m ⊢; exact okM_le hb v m
  | .agg cs, m => by simp only [okM] at m ⊢; exact okMA_le hb cs m
  | .tuple cs, m => by simp only [okM] at m ⊢; exact okMA_le hb cs m
  | .chan none, _ => trivial
  | .chan (some _), m => m
  | .bool _, _ => trivial
  | .int _ _, _ => trivial
  | .float _ _, _ => trivial
  | .complex _ _ _, _ => trivial
  | .string _, _ => trivial
  | .nilFunc, _ => trivial
  | .nilIface, _ => trivial
theorem okMA_le {ξ : Nat → Xi} {B B' : Nat} (hb : B ≤ B') : ∀ (a : Array Value), okMA ξ B a → okMA ξ B' a
  | ⟨l⟩, m => by simp only [okMA] at m ⊢; exact okML_le hb l m
theorem okML_le {ξ : Nat → Xi} {B B' : Nat} (hb : B ≤ B') : ∀ (l : List Value), okML ξ B l → okML ξ B' l
  | [], _ => trivial
  | v :: r, m => by simp only [okML] at m ⊢; exact ⟨okM_le hb v m.1, okML_le hb r m.2⟩
end

abbrev DT : Option AObj := some (.deferred true)
abbrev DF : Option AObj := some (.deferred false)
def okFr (p : Nat) : Fr → Prop
  | [] => True
  | (d, v) :: r => okM (fun _ => .same) p v ∧ okFr p r
theorem okFr_at {p : Nat} : ∀ {l : Fr}, okFr p l → ∀ d v, (d, v) ∈ l → okM (fun _ => .same) p v
  | [], _, _, _, h => by cases h
  | (a, u) :: r, hk, d, v, h => by
    rcases List.mem_cons.1 h with h | h
    · injection h with e1 e2
      subst e1 e2
      exact hk.1
    · exact okFr_at hk.2 d v h
/-- What an object says of names below p only. -/
def clO (p : Nat) : AObj → Prop
  | .cells b => okML (fun _ => .same) p b.cells
  | .deferred _ => True
  | .loop r => (∃ l, r.t = trOf l ∧ okFr p l) ∧ r.defers < p
  | .map es _ => ∀ e ∈ es, okM (fun _ => .same) p e.key ∧ okM (fun _ => .same) p e.val
  | .iter .. => False
theorem clO.om {σ : Nat → Nat} {p B n : Nat} (hlow : ∀ k, k < p → σ k = k) (hB : p ≤ B) : ∀ {o : AObj}, clO p o → OM σ (fun _ => .same) B n o o
  | .cells bl, e => ⟨(mvL_low hlow _ e).symm, okML_le hB _ e, fun h => h, fun h => ⟨h, rfl⟩⟩
  | .deferred d, _ => rfl
  | .iter _ _ _ _, e => e.elim
  | .loop r, ⟨⟨l, e1, e2⟩, e3⟩ => by
    refine ⟨rfl, fun d v hd => ?_, hlow _ e3, Nat.lt_of_lt_of_le e3 hB, trivial⟩
    rw [e1, trOf_get] at hd
    have := okFr_at e2 d v (lk_mem hd)
    exact ⟨mv_low hlow _ this, okM_le hB _ this⟩
  | .map es c, e => by
    refine ⟨?_, rfl, fun x hx => ⟨okM_le hB _ (e x hx).1, okM_le hB _ (e x hx).2⟩⟩
    refine (List.map_id _).symm.trans (List.map_congr_left fun x hx => ?_)
    unfold mvE
    rw [mv_low hlow _ (e x hx).1, mv_low hlow _ (e x hx).2]
    rfl
def clL (p : Nat) : List (Option AObj) → Prop
  | [] => True
  | x :: r => (match x with | none => True | some o => clO p o) ∧ clL p r
theorem clL_at {p : Nat} : ∀ {L : List (Option AObj)}, clL p L → ∀ (n : Nat) (o : AObj), L[n]? = some (some o) → clO p o
  | [], _, n, o, h => by simp at h
  | x :: r, h, n, o, hn => by
    cases n with
    | zero =>
      simp only [List.getElem?_cons_zero, Option.some.injEq] at hn
      subst hn
      exact h.1
    | succ n => exact clL_at h.2 n o (by simpa using hn)
theorem clL_app {p : Nat} : ∀ {L M : List (Option AObj)}, clL p (L ++ M) = (clL p L ∧ clL p M)
  | [], M => by simp [clL]
  | x :: r, M => by simp only [List.cons_append, clL, clL_app (L := r), and_assoc]
theorem clL_rep {p k : Nat} {b : Bool} : clL p (List.replicate k (some (.deferred b))) = True := by
  induction k with
  | zero => rfl
  | succ k ih => rw [List.replicate_succ]; simp only [clL, ih, clO, and_self]
def subO (p : Nat) : List (Option AObj) → List (Option AObj) → Prop
  | [], [] => True
  | x :: r, y :: s => (match y with | none => True | some o => x = some o ∧ clO p o) ∧ subO p r s
  | _, _ => False
theorem subO_at {p : Nat} : ∀ {F1 F2 : List (Option AObj)}, subO p F1 F2 → F1.length = F2.length ∧ ∀ (n : Nat) (o : AObj), F2[n]? = some (some o) → F1[n]? = some (some o) ∧ clO p o
  | [], [], _ => ⟨rfl, fun n o h => by simp at h⟩
  | x :: r, y :: s, h => by
    obtain ⟨h1, h2⟩ := h
    obtain ⟨h3, h4⟩ := subO_at h2
    refine ⟨by simp [h3], fun n o hn => ?_⟩
    cases n with
    | zero =>
      simp only [List.getElem?_cons_zero, Option.some.injEq] at hn
      subst hn
      simp only at h1
      rw [h1.1]
      exact ⟨rfl, h1.2⟩
    | succ n => exact h4 n o (by simpa using hn)
  | [], _ :: _, h => h.elim
  | _ :: _, [], h => h.elim
def clF (p : Nat) (l : Fr) : Fr → Prop
  | [] => True
  | (d, v) :: r => lk l d = some v ∧ okM (fun _ => .same) p v ∧ clF p l r
theorem clF_at {p : Nat} {l : Fr} : ∀ {l2 : Fr}, clF p l l2 → ∀ d v, (d, v) ∈ l2 → lk l d = some v ∧ okM (fun _ => .same) p v
  | [], _, _, _, h => by cases h
  | (a, u) :: r, hk, d, v, h => by
    rcases List.mem_cons.1 h with h | h
    · injection h with e1 e2
      subst e1 e2
      exact ⟨hk.1, hk.2.1⟩
    · exact clF_at hk.2.2 d v h
/-- Marks of k rounds, the latest first. -/
def marksN (p : Nat) : Nat → List Nat
  | 0 => []
  | k + 1 => (k + p) :: marksN p k
theorem marksN_lt {p k m : Nat} (h : m ∈ marksN p k) : p ≤ m ∧ m < k + p := by
  induction k with
  | zero => cases h
  | succ k ih =>
    rcases List.mem_cons.1 h with rfl | h
    · omega
    · have := ih h; omega

theorem Wk.mark {nt b wl p k i : Nat} {l l2 : Fr} {F1 F2 T L L2 : List (Option AObj)} (hL : L = F1 ++ (List.replicate k DT ++ T)) (hL2 : L2 = F2 ++ List.replicate (k + 1) DT) (hp : F2.length = p) (hT : T[i]? = some DT) (hb : wl ≤ b) (hbp : b ≤ p)
    (keep : F2.take wl = F1.take wl) (obj : subO p F1 F2) (val : clF p l l2) : Wk nt b none (trOf l) ((k + (p + i)) :: marksN p k) (Hp wl L) (trOf l2) (marksN p (k + 1)) (Hp wl L2) := by
  subst hL hL2
  obtain ⟨h1, h2⟩ := subO_at obj
  let σ : Nat → Nat := fun n => if n = k + p then k + (p + i) else n
  have hlow : ∀ n, n < p → σ n = n := fun n hn => if_neg (by omega)
  have hget : ∀ n o, (Hp wl (F2 ++ List.replicate (k + 1) DT)).get n = some o → (n < p ∧ F2[n]? = some (some o)) ∨ (p ≤ n ∧ n ≤ k + p ∧ o = .deferred true) := by
    intro n o g
    rw [Hp_get] at g
    rcases Nat.lt_or_ge n p with h | h
    · rw [List.getElem?_append_left (by omega)] at g
      cases hx : F2[n]? with
      | none => rw [hx] at g; cases g
      | some x => rw [hx] at g; exact .inl ⟨h, by rw [show x = some o from g]⟩
    · rw [List.getElem?_append_right (by omega), List.getElem?_replicate] at g
      split at g
      · injection g with g; exact .inr ⟨h, by omega, g.symm⟩
      · cases g
  refine Gc.wk (σ := σ) (ξ := fun _ => .same) ⟨rfl, rfl, rfl, hb, ?_, fun n hn => ⟨hlow n (by omega), rfl⟩, fun n n' o o' g g' _ _ _ e => ?_, fun n o g _ hn => ?_, fun _ => trivial, fun n hn => ?_, fun n o g => .inr ⟨by simp, ?_⟩, fun d v hd => ?_, ?_, fun m hm => ?_⟩ (fun _ h => by cases h)
  · show b ≤ (F2 ++ List.replicate (k + 1) DT).length
    simp
    omega
  · have q1 : n ≤ k + p := by rcases hget n o g with h | h <;> omega
    have q2 : n' ≤ k + p := by rcases hget n' o' g' with h | h <;> omega
    simp only [σ] at e
    split at e <;> split at e <;> omega
  · have hn' : wl ≤ n := hn
    show wl ≤ σ n
    simp only [σ]
    split <;> omega
  · have hn' : n < wl := hn
    show (trL _).get n = (trL _).get n
    rw [trL_get, trL_get, List.getElem?_append_left (by omega), List.getElem?_append_left (by omega)]
    have : (F2.take wl)[n]? = (F1.take wl)[n]? := by rw [keep]
    rw [List.getElem?_take_of_lt hn', List.getElem?_take_of_lt hn'] at this
    rw [this]
  · rcases hget n o g with ⟨q1, q2⟩ | ⟨q1, q2, rfl⟩
    · obtain ⟨e1, e2⟩ := h2 n o q2
      refine ⟨o, ?_, ?_⟩
      · rw [hlow n q1, Hp_get, List.getElem?_append_left (by omega), e1]; rfl
      · exact e2.om hlow (by show p ≤ (F2 ++ List.replicate (k + 1) DT).length; simp; omega)
    · refine ⟨.deferred true, ?_, rfl⟩
      rw [Hp_get]
      by_cases e : n = k + p
      · have : σ n = k + (p + i) := if_pos e
        rw [this, List.getElem?_append_right (by omega), List.getElem?_append_right (by simp; omega), List.length_replicate, show k + (p + i) - F1.length - k = i by omega, hT]; rfl
      · have : σ n = n := if_neg e
        rw [this, List.getElem?_append_right (by omega), List.getElem?_append_left (by simp; omega), List.getElem?_replicate, if_pos (by omega)]; rfl
  · rw [trOf_get] at hd ⊢
    obtain ⟨e1, e2⟩ := clF_at val d v (lk_mem hd)
    exact ⟨by rw [e1, mv_low (fun k hk => hlow k hk) _ e2], okM_le (by show p ≤ (F2 ++ List.replicate (k + 1) DT).length; simp; omega) _ e2⟩
  · show _ = List.map σ ((k + p) :: marksN p k)
    rw [List.map_cons]
    congr 1
    · show _ = σ (k + p); exact (if_pos rfl).symm
    · symm
      refine (List.map_congr_left fun m hm => ?_).trans (List.map_id _)
      have := marksN_lt hm
      exact if_neg (by omega)
  · have := marksN_lt hm
    exact ⟨by show m < (F2 ++ List.replicate (k + 1) DT).length; simp; omega, trivial⟩

/-- All marks taken off at the end. -/
theorem aMarks_N {wl p : Nat} : ∀ (k : Nat) (F R : List (Option AObj)), F.length = p → wl ≤ p → aMarks (marksN p k) (Hp wl (F ++ (List.replicate k DT ++ R))) = some (Hp wl (F ++ (List.replicate k DF ++ R)))
  | 0, F, R, _, _ => rfl
  | k + 1, F, R, hF, hw => by
    have e : F ++ (List.replicate (k + 1) DT ++ R) = F ++ (List.replicate k DT ++ (DT :: R)) := by rw [List.replicate_succ']; simp
    have e2 : F ++ (List.replicate (k + 1) DF ++ R) = F ++ (List.replicate k DF ++ (DF :: R)) := by rw [List.replicate_succ']; simp
    rw [e, e2]
    have hg : (Hp wl (F ++ (List.replicate k DT ++ (DT :: R)))).get (k + p) = some (.deferred true) := by
      rw [Hp_get, List.getElem?_append_right (by omega), List.getElem?_append_right (by simp; omega), List.length_replicate, show k + p - F.length - k = 0 by omega]; rfl
    have hs : (F ++ (List.replicate k DT ++ (DT :: R))).set (k + p) DF = F ++ (List.replicate k DT ++ (DF :: R)) := by
      rw [List.set_append_right _ _ (by omega), List.set_append_right _ _ (by simp; omega), List.length_replicate, show k + p - F.length - k = 0 by omega]; rfl
    simp only [marksN, aMarks, hg]
    rw [if_pos (by show wl ≤ k + p; omega), Hq_put _ _ (by simp; omega), hs]
    exact aMarks_N k F (DF :: R) hF hw
section
variable {k i : Nat} {x y : Option AObj} {T : List (Option AObj)}
theorem rep_get : (List.replicate k x ++ T)[k + i]? = T[i]? := by rw [List.getElem?_append_right (by simp)]; simp
theorem rep_get0 : (List.replicate k x ++ T)[k]? = T[0]? := by rw [List.getElem?_append_right (by simp)]; simp
theorem rep_set : (List.replicate k x ++ T).set (k + i) y = List.replicate k x ++ T.set i y := by rw [List.set_append_right _ _ (by simp)]; simp
theorem rep_set0 : (List.replicate k x ++ T).set k y = List.replicate k x ++ T.set 0 y := by rw [List.set_append_right _ _ (by simp)]; simp
theorem rep_len : (List.replicate k x ++ T).length = k + T.length := by simp
end

/-- What lies behind is forgotten. -/
theorem Wk.tail {nt b wl : Nat} {rd : Option Nat} {l l2 : Fr} {ms : List Nat} {L T LT : List (Option AObj)} (hLT : LT = L ++ T) (hb : wl ≤ b) (hbl : b ≤ L.length) (obj : clL L.length L) (val : clF L.length l l2) (hrd : ∀ k, rd = some k → k < b) (hms : ∀ m ∈ ms, m < L.length) :
    Wk nt b rd (trOf l) ms (Hp wl LT) (trOf l2) ms (Hp wl L) := by
  subst hLT
  have hget : ∀ n o, (Hp wl L).get n = some o → n < L.length ∧ L[n]? = some (some o) := by
    intro n o g
    rw [Hp_get] at g
    cases hx : L[n]? with
    | none => rw [hx] at g; cases g
    | some x => rw [hx] at g; exact ⟨(List.getElem?_eq_some_iff.1 hx).1, by rw [show x = some o from g]⟩
  refine Gc.wk (σ := fun n => n) (ξ := fun _ => .same) ⟨rfl, rfl, rfl, hb, hbl, fun n hn => ⟨rfl, rfl⟩, fun n n' o o' g g' _ _ _ e => e, fun n o g _ hn => hn, fun _ => trivial, fun n hn => ?_, fun n o g => .inr ⟨by simp, ?_⟩, fun d v hd => ?_, ?_, fun m hm => ⟨hms m hm, trivial⟩⟩ hrd
  · have hn' : n < wl := hn
    show (trL _).get n = (trL _).get n
    rw [trL_get, trL_get, List.getElem?_append_left (by omega)]
  · obtain ⟨q1, q2⟩ := hget n o g
    exact ⟨o, by rw [Hp_get, List.getElem?_append_left q1, q2]; rfl, (clL_at obj n o q2).om (fun _ _ => rfl) (Nat.le_refl _)⟩
  · rw [trOf_get] at hd ⊢
    obtain ⟨e1, e2⟩ := clF_at val d v (lk_mem hd)
    exact ⟨by rw [e1, mv_low (fun _ _ => rfl) _ e2], e2⟩
  · exact (List.map_id _).symm

/-- How a function ends whose memory is told as it is. -/
def EndX (P : Program) (rs : List ResultVar) (v : Value) (h' : AH) (e : AEx) (l : Fr) (ms : List Nat) (h1 : AH) : Prop := (∀ id, e ≠ .exit id) ∧ ms = [] ∧ ∃ vs, resF P l h1 rs = some vs ∧ packV vs = v ∧ h1 = h'
theorem EndX.mk {P : Program} {rs : List ResultVar} {v : Value} {h' : AH} {e : AEx} {l : Fr} {h1 : AH} {vs : List Value} (he : ∀ id, e ≠ .exit id) (hr : resF P l h1 rs = some vs) (hv : packV vs = v) (hh : h1 = h') : EndX P rs v h' e l [] h1 := ⟨he, rfl, vs, hr, hv, hh⟩
theorem Fc.introX {P : Program} {f nt : Nat} {ic : IC} {rs : List ResultVar} {args : List Value} {h h' : AH} {v : Value} (F : FnIs P f ic nt rs) (hl : args.length ≤ nt) (hg : h.wlim ≤ h.next → Grow h h') (T : ITri P nt none h.next ic (argF 0 args) [] h (EndX P rs v h')) : Fc P f args h v h' := by
  obtain ⟨fn, body, hf, hb, hnt, hrs, hic⟩ := F.ex
  subst hnt hrs
  refine Fc.intro hf hb hic hl hg (T.mono ?_)
  rintro e l ms h1 ⟨q1, q2, vs, q3, q4, rfl⟩
  refine ⟨q1, q2, vs, q3, Wk.drop fun d u hd => ?_⟩
  subst q4
  rw [Tr.get_put] at hd ⊢
  split at hd
  · rename_i e
    rw [if_pos e]
    exact hd
  · rw [Tr.get_leaf] at hd
    cases hd
theorem grow_hq {wl : Nat} {hid : List (Nat × Nat)} {L L' : List (Option AObj)} (h1 : L.length ≤ L'.length) (h2 : L'.take wl = L.take wl) : Grow (Hq wl hid L) (Hq wl hid L') :=
  ⟨h1, rfl, rfl, fun k hk => by
    have hk' : k < wl := hk
    show (trL _).get k = (trL _).get k
    rw [trL_get, trL_get]
    have : (L'.take wl)[k]? = (L.take wl)[k]? := by rw [h2]
    rw [List.getElem?_take_of_lt hk', List.getElem?_take_of_lt hk'] at this
    rw [this]⟩
end Go.Vm
