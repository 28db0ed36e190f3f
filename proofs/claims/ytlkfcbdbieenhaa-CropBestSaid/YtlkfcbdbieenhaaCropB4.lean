/-
  Walks of chapter 7, the best cropping: rests.
-/
import Derived.Test.YtlkfcbdbieenhaaCropB3
import Derived.Test.YtlkfcbdbieenhaaCropWG
namespace Go.Proofs.Ytlkfcbdbieenhaa
open Go.RowKit Go.Shelf

attribute [local go_sem] Oper.semAt_some

theorem Sl.ofBlock {w W : World} {B b off n : Nat} {ws : List Int} (h : Sl eI 1 w B (some ⟨b, off, none⟩) n ws) (e : W.heap[b]? = w.heap[b]?) : Sl eI 1 W B (some ⟨b, off, none⟩) n ws := by
  refine ⟨h.1, fun hne => ?_⟩
  obtain ⟨b', off', e1, hb, hc⟩ := h.2 hne
  injection e1 with e1
  injection e1 with e1 e2
  subst e1 e2
  exact ⟨_, _, rfl, hb, fun i x hi j u hu => (World.cell?_of_block (a := ⟨b, off + i * 1 + j, none⟩) e).trans (hc i x hi j u hu)⟩

theorem blocks_stops (n : Nat) (hn : 1 ≤ n) (Bf Bb b off cap5 N f : Nat) (S : Nat → Prop) (hSf : S Bf) (hSb : S Bb) (hSw : S b) (s1 s2 s3 : Int) (ws : List Int) (hs : 1 ≤ s1 ∧ s1 ≤ s2 ∧ s2 ≤ 600) (hN : ws.length = N) (hN3 : N ≤ 3000) (hf : f < N) (hw : ∀ x ∈ ws, -1 ≤ x ∧ x ≤ 1000)
    (w : World) (B : Nat) (hBf : Bk w Bf 3 #[.int .i64 f]) (hBb : Bk w Bb 108 #[.int .i64 s1, .int .i64 s2, .int .i64 s3, .slice (some ⟨b, off, none⟩) N cap5]) (hsl : Sl eI 1 w B (some ⟨b, off, none⟩) N ws) (hB : B ≤ w.heap.size) :
    SeqStopsK Fence.wide n Try.prog 83 #[.pointer (some ⟨Bf, 0, none⟩), .pointer (some ⟨Bb, 0, none⟩)] (fun x : Yf f N => #[.agg #[.int .i64 x.1.1, .int .i64 x.1.2.1], .int .i64 x.1.2.2]) (KeepsOn S) (fun ys => ys.map Subtype.val = yF ws s1 s2 f) (fun _ => True) N w := fun l J Jx W hW _ _ hY h0 => by
  obtain ⟨b', off', e1, hb, hc⟩ := hsl.2 (by intro h0; subst h0; simp at hN; omega)
  injection e1 with e1
  injection e1 with e1 e2
  subst e1 e2
  have hbw : b < w.heap.size := by omega
  obtain ⟨o, ho⟩ : ∃ o, w.heap[b]? = some o := ⟨_, Array.getElem?_eq_getElem hbw⟩
  have hob : W.heap[b]? = some o := (hW.block b hbw).trans ho
  refine (blocks1_in n hn l Bf Bb b off cap5 N f S hSf hSb hSw s1 s2 s3 ws hs hN hN3 hf hw J Jx hY W (hBf.below hW hBf.lt) (hBb.below hW hBb.lt) ⟨o, hob, fun W' hW' => ?_⟩ h0).mono ?_
  · have := hsl.ofBlock (W := W') (hW'.trans ho.symm)
    refine ⟨this.1, fun hne => ?_⟩
    obtain ⟨b2, off2, e3, _, hc2⟩ := this.2 hne
    injection e3 with e3
    injection e3 with e3 e4
    subst e3 e4
    exact ⟨_, _, rfl, Nat.lt_succ_self _, hc2⟩
  · rintro e W' ⟨hv, hx | ⟨pre, hx⟩⟩
    · exact ⟨hv, .inl hx⟩
    · exact ⟨hv, .inr ⟨pre, trivial, hx⟩⟩

theorem infoR : (Try.prog.info? 113).map (fun i => (i.zero, i.size, i.bytes)) = some (some (.agg #[.int .i64 0, .int .i64 0, .int .i64 0, .int .i64 0]), 4, 32) := by kernel_rfl

theorem flat4 (z : Value) : ∀ n, (List.range n).flatMap (fun _ => [z, z, z, z]) = List.replicate (n * 4) z
  | 0 => rfl
  | n + 1 => by
    rw [List.range_succ, List.flatMap_append, flat4 z n, show (n + 1) * 4 = n * 4 + 4 from by omega, ← List.replicate_append_replicate]
    rfl
theorem made_row {w : World} {g n : Nat} (h : w.heap[g]? = some (.cells (madeCells (Value.cells (.agg #[.int .i64 0, .int .i64 0, .int .i64 0, .int .i64 0])) (n * 4)).toList.toArray 113 (0, 0))) : Bk w g 113 (rowA (fun _ => (0, 0, 0, 0)) n) := by
  unfold Bk
  rw [h]
  have e1 : (madeCells (Value.cells (.agg #[.int .i64 0, .int .i64 0, .int .i64 0, .int .i64 0])) (n * 4)).toList = List.replicate (n * 4) (.int .i64 0) := by
    rw [List.eq_replicate_iff]
    refine ⟨by simp [size_madeCells], fun b hb => ?_⟩
    simp [madeCells, Value.cells] at hb
    obtain ⟨a, _, rfl⟩ := hb
    rcases (by omega : a % 4 = 0 ∨ a % 4 = 1 ∨ a % 4 = 2 ∨ a % 4 = 3) with h | h | h | h <;> rw [h] <;> rfl
  rw [e1, ← flat4]
  rfl
theorem rowA_set (m : Nat → Rs) (n i : Nat) (r : Rs) : ((((rowA m n).setIfInBounds (i * 4) (.int .i64 r.1)).setIfInBounds (i * 4 + 1) (.int .i64 r.2.1)).setIfInBounds (i * 4 + 2) (.int .i64 r.2.2.1)).setIfInBounds (i * 4 + 3) (.int .i64 r.2.2.2) = rowA (upR m i r) n := by
  have hat : ∀ (m : Nat → Rs) (k : Nat), (rowA m n)[k]? = if k / 4 < n then (eR (m (k / 4)))[k % 4]? else none := fun m k => by
    by_cases hk : k / 4 < n
    · rw [if_pos hk]
      obtain ⟨u, hu⟩ : ∃ u, (eR (m (k / 4)))[k % 4]? = some u := ⟨_, List.getElem?_eq_getElem (by simp [eR]; omega)⟩
      have := rowA_at m n (k / 4) hk (k % 4) u hu
      rw [show k / 4 * 4 + k % 4 = k from by omega] at this
      rw [this, hu]
    · rw [if_neg hk, Array.getElem?_eq_none]
      have : (rowA m n).size = n * 4 := by
        rw [rowA, List.size_toArray, flatMap_len (enc := fun i => eR (m i)) (c := 4) (fun i => encR (m i)), List.length_range]
      rw [this]
      omega
  apply Array.ext_getElem?
  intro k
  simp only [Array.getElem?_setIfInBounds, Array.size_setIfInBounds]
  have hsz : (rowA m n).size = n * 4 := by
    rw [rowA, List.size_toArray, flatMap_len (enc := fun i => eR (m i)) (c := 4) (fun i => encR (m i)), List.length_range]
  rw [hsz, hat, hat]
  unfold upR
  repeat' split
  all_goals first
    | (exfalso; omega)
    | rfl
    | (rw [show k % 4 = 0 from by omega]; rfl)
    | (rw [show k % 4 = 1 from by omega]; rfl)
    | (rw [show k % 4 = 2 from by omega]; rfl)
    | (rw [show k % 4 = 3 from by omega]; rfl)

/-- What rests keeps: the boule, the row, its slice. -/
structure RS (w wv : World) (g3 n : Nat) (s1 s2 s3 : Int) (A : Option Addr) (cap : Nat) (m : Nat → Rs) : Prop where
  bel : Below w.heap.size w wv
  box : Bk wv w.heap.size 108 #[.int .i64 s1, .int .i64 s2, .int .i64 s3, .slice A n cap]
  row : Bk wv (w.heap.size + 1) 113 (rowA m (n + 1))
  ptr : Bk wv g3 110 #[.slice (some ⟨w.heap.size + 1, 0, none⟩) (n + 1) (n + 1)]
  lt : w.heap.size + 1 < g3
theorem RS.keep {w wv W : World} {g3 n : Nat} {s1 s2 s3 : Int} {A : Option Addr} {cap : Nat} {m : Nat → Rs} (h : RS w wv g3 n s1 s2 s3 A cap m) {B : Nat} (hb : Below B wv W) (hB : g3 < B) : RS w W g3 n s1 s2 s3 A cap m :=
  ⟨h.bel.trans (hb.mono (by have := h.lt; omega)), h.box.below hb (by have := h.lt; omega), h.row.below hb (by have := h.lt; omega), h.ptr.below hb hB, h.lt⟩

/-- All but two blocks, and what is made anew, stay. -/
structure Stp (a b : Nat) (W W' : World) : Prop where
  bel : ∀ B, B ≤ W.heap.size → B ≤ a → B ≤ b → Below B W W'
  blk : ∀ k o, k ≠ a → k ≠ b → W.heap[k]? = some o → W'.heap[k]? = some o
  siz : W.heap.size ≤ W'.heap.size
theorem lt_of_some {W : World} {k : Nat} {o : Obj} (h : W.heap[k]? = some o) : k < W.heap.size := (Array.getElem?_eq_some_iff.1 h).1
theorem Stp.refl (a b : Nat) (W : World) : Stp a b W W := ⟨fun _ _ _ _ => Below.refl _ _, fun _ _ _ _ h => h, Nat.le_refl _⟩
theorem Stp.below {a b : Nat} {W X Y : World} (h : Stp a b W X) (hb : Below X.heap.size X Y) : Stp a b W Y :=
  ⟨fun B h1 h2 h3 => (h.bel B h1 h2 h3).trans (hb.mono (Nat.le_trans h1 h.siz)), fun k o h1 h2 hk => by
    have h3 := h.blk k o h1 h2 hk
    exact (hb.block k (lt_of_some h3)).trans h3, Nat.le_trans h.siz hb.size⟩
theorem Stp.alloc {a b : Nat} {W X : World} (h : Stp a b W X) (o : Obj) : Stp a b W (X.alloc o) := h.below (ba (Below.refl _ _))
theorem Stp.drew {a b : Nat} {W X : World} (h : Stp a b W X) : Stp a b W X.drew := h.below (bdr (Below.refl _ _))
theorem Stp.set {a b : Nat} {W X : World} (h : Stp a b W X) {p : Addr} (hp : p.block = a ∨ p.block = b) (u : Value) : Stp a b W (X.setCell p u) :=
  ⟨fun B h1 h2 h3 => (h.bel B h1 h2 h3).setCell (by rcases hp with e | e <;> omega) u, fun k o h1 h2 hk => by
    have h3 := h.blk k o h1 h2 hk
    exact (Below.heap_setCell X p u k (by rcases hp with e | e <;> omega)).trans h3, Nat.le_trans h.siz (by simp [World.setCell])⟩
theorem Stp.bk {a b : Nat} {W X : World} (h : Stp a b W X) {g : Nat} {t : TypeId} {cs : Array Value} (h1 : g ≠ a) (h2 : g ≠ b) (hb : Bk W g t cs) : Bk X g t cs := h.blk g _ h1 h2 hb
theorem Stp.from {a b : Nat} {W X : World} (h : Stp a b W X) {ta tb : TypeId} {ca cb : Array Value} (ha : Bk W a ta ca) (hb : Bk W b tb cb) (B : Nat) : KeepsFrom B W X :=
  ⟨h.siz, fun k o _ hk ho => h.blk k o (fun e => by subst e; unfold Bk at ha; rw [ha] at hk; injection hk with hk; subst hk; cases ho) (fun e => by subst e; unfold Bk at hb; rw [hb] at hk; injection hk with hk; subst hk; cases ho) hk⟩
theorem Stp.on {a b : Nat} {W X : World} (h : Stp a b W X) {S : Nat → Prop} (ha : ¬ S a) (hb : ¬ S b) : KeepsOn S W X := fun k o hk ho => h.blk k o (fun e => ha (e ▸ hk)) (fun e => hb (e ▸ hk)) ho

/-- The marks of loops that are over. -/
def marksOk (B : Nat) (W : World) : List Deferred → Prop
  | [] => True
  | d :: ds => (∃ D, d = { target := .collected D, args := #[] } ∧ B ≤ D ∧ W.heap[D]? = some (.deferred (some [])) ∧ ∀ d' ∈ ds, d' ≠ { target := .collected D, args := #[] }) ∧ marksOk B W ds
theorem marksOk.keep {B : Nat} {W W' : World} : ∀ {ds : List Deferred}, marksOk B W ds → (∀ D : Nat, { target := .collected D, args := #[] } ∈ ds → W.heap[D]? = some (.deferred (some [])) → W'.heap[D]? = some (.deferred (some []))) → marksOk B W' ds
  | [], _, _ => trivial
  | _ :: _, ⟨⟨D, rfl, h1, h2, h3⟩, hr⟩, hk => ⟨⟨D, rfl, h1, hk D List.mem_cons_self h2, h3⟩, hr.keep fun D' hm h => hk D' (List.mem_cons_of_mem _ hm) h⟩
theorem marksOk.lt {B : Nat} {W : World} : ∀ {ds : List Deferred}, marksOk B W ds → ∀ D : Nat, { target := .collected D, args := #[] } ∈ ds → D < W.heap.size
  | [], _, _, h => by cases h
  | _ :: ds, ⟨⟨D, rfl, _, h2, _⟩, hr⟩, D', h => by
    rcases List.mem_cons.1 h with e | h
    · injection e with e _
      injection e with e
      subst e
      exact lt_of_some h2
    · exact hr.lt D' h
/-- On the way out all marks are taken. -/
theorem leaves_marks {fn : Func} {tmps : Array Value} {R : Ending → World → Prop} {B n : Nat} : ∀ (ds : List Deferred) (W : World), marksOk B W ds →
    (∀ W' : World, Below B W W' → (∀ (k : Nat) cs t fr, W.heap[k]? = some (Obj.cells cs t fr) → W'.heap[k]? = some (Obj.cells cs t fr)) → ∃ v, (results fn tmps).run Try.prog W' = .ok v W' ∧ R (.returned v) W') → LeavesInM Fence.wide n Try.prog fn tmps R ds .returning W
  | [], W, _, h => h W (Below.refl _ _) (fun _ _ _ _ h => h)
  | _ :: ds, W, ⟨⟨D, rfl, h1, h2, h3⟩, hr⟩, h => by
    refine ⟨by simp, .inl ⟨D, _, rfl, run_takeDeferred h2, ?_⟩⟩
    have hD := lt_of_some h2
    have hbk : ∀ k, k ≠ D → (W.putObj D (.deferred none)).heap[k]? = W.heap[k]? := fun k hk => World.putObj_heap_other hk
    refine leaves_marks ds _ (hr.keep fun D' hm hk => ?_) fun W' hb hc => h W' (Below.trans ?_ hb) fun k cs t fr hk => hc k cs t fr ((hbk k (fun e => by subst e; rw [h2] at hk; cases hk)).trans hk)
    · exact (hbk D' (fun e => h3 _ (e ▸ hm) rfl)).trans hk
    · exact ⟨rfl, rfl, rfl, by simp, fun k hk => hbk k (by omega)⟩

end Go.Proofs.Ytlkfcbdbieenhaa
