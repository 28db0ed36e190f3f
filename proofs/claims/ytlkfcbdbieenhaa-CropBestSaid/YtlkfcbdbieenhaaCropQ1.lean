/-
  Chapter 7 by names: contracts of the reference; what the reference's Proves says.
-/
import Derived.Test.YtlkfcbdbieenhaaCropP5
import Derived.Test.YtlkfcbdbieenhaaCropWE
set_option linter.unusedSimpArgs false
set_option linter.unusedVariables false
namespace Go.Proofs.Ytlkfcbdbieenhaa
open Go.RowKit Go.Vm
set_option maxRecDepth 100000

theorem liftA {f n : Nat} {l : List St} {more : List Value} {v : Value} (hn : l.length = n) (hm : noAddrL more = true) (hv : noAddr v = true) (hb : ∃ fn c, Try.prog.funcs[f]? = some fn ∧ fn.body = some c)
    (H : ∀ A cap w, Sl eII 2 w w.heap.size A n l → Calls Try.prog f (Value.slice A n cap :: more).toArray w fun e w' => e = .returned v ∧ Below w.heap.size w w') {h : AH} {s : Value} (h0 : h.sees 0 = true) (r : Rd h s n (rows eII l)) :
    Fc Try.prog f (s :: more) h v h := by
  refine lift_plain (fun c => ?_) (rows_no (f := eII) l) hm hv h0 r
  refine Fc.ofPlain hv hb fun w0 φ κ w R ha => ?_
  obtain ⟨A, cap, e1, hs⟩ := Rel.sl (enc := eII) (xs := l) R (k := 1) (n := n) (cp := c) (H1_get _) (by omega) (ha _ (by simp)) hn
  have e2 : more.map (Vm.ren φ κ) = more := by
    have := no_all hm
    conv => rhs; rw [← List.map_id more]
    exact List.map_congr_left fun x hx => ren_noAddr _ _ _ (this x hx)
  simp only [List.map_cons, e1, e2]
  exact H A cap w hs

theorem refCheck_f (n : Nat) (l : List St) (k1 k2 k3 : Int) (hn : l.length = n) (hb : n ≤ 1000000) {h : AH} {s : Value} (h0 : h.sees 0 = true) (r : Rd h s n (rows eII l)) :
    Fc Try.prog 12 [s, sawV k1 k2 k3] h (.int .i64 (checkF l (k1, k2, k3))) h :=
  liftA hn rfl rfl ⟨_, _, Try.func12, rfl⟩ (fun A cap w hs => refCheck_any A n cap _ l k1 k2 k3 w hs (Nat.le_refl _) hb) h0 r
theorem refLength_f (n : Nat) (l : List St) (hn : l.length = n) (hb : n ≤ 1000) (hg : l.any badSt = false) {h : AH} {s : Value} (h0 : h.sees 0 = true) (r : Rd h s n (rows eII l)) :
    Fc Try.prog 13 [s] h (.int .i64 (lenF l)) h :=
  liftA hn rfl rfl ⟨_, _, Try.func13, rfl⟩ (fun A cap w hs => (refLength_any A n cap _ l w hs hb hg).mono (by rintro _ _ ⟨rfl, rfl⟩; exact ⟨rfl, Below.refl _ _⟩)) h0 r
theorem refAllowed_f (n : Nat) (l : List St) (k1 k2 k3 f t : Int) (hn : l.length = n) (hb : n ≤ 1000) (hg : l.any badSt = false) (hlf : lenF l ≤ 3000000) {h : AH} {s : Value} (h0 : h.sees 0 = true) (r : Rd h s n (rows eII l)) :
    Fc Try.prog 27 [s, sawV k1 k2 k3, .agg #[.int .i64 f, .int .i64 t]] h (.bool (alF l k1 k2 f t)) h :=
  liftA hn rfl rfl ⟨_, _, Try.func27, rfl⟩ (fun A cap w hs => refAllowed_any A n cap _ l k1 k2 k3 f t w hs (Nat.le_refl _) hb hg hlf) h0 r
theorem refValue_f (n : Nat) (l : List St) (f t : Int) (hn : l.length = n) (hb : n ≤ 1000) (hg : l.any badSt = false) (hf : 0 ≤ f ∧ f ≤ 1000000) (ht : 0 ≤ t ∧ t ≤ 1000000) {h : AH} {s : Value} (h0 : h.sees 0 = true) (r : Rd h s n (rows eII l)) :
    Fc Try.prog 28 [s, .agg #[.int .i64 f, .int .i64 t]] h (.int .i64 ((t - f) * (woF f t l).2)) h :=
  liftA hn rfl rfl ⟨_, _, Try.func28, rfl⟩ (fun A cap w hs => refValue_any A n cap _ l f t w hs (Nat.le_refl _) hb hg hf ht) h0 r
theorem refIn_f (x a b : Int) {h : AH} (h0 : h.sees 0 = true) : Fc Try.prog 47 [.int .i64 x, .int .i64 a, .int .i64 b] h (.bool (inB x a b)) h :=
  Fc.ofPlain rfl ⟨_, _, Try.func47, rfl⟩ fun w0 φ κ w R ha => by
    simp only [List.map_cons, List.map_nil, ren_noAddr _ _ (Value.int .i64 _) rfl]
    exact (ref_in x a b w).mono (by rintro _ _ ⟨rfl, rfl⟩; exact ⟨rfl, Below.refl _ _⟩)

/- the reference's Proves -/
section
variable (l : List St) (k1 k2 k3 : Int) (bd : List Int)
def rpB (a : Nat) (b : Int) : Prop := alF l k1 k2 a b = true → IntKind.i64.wrap ((b - a) * (woF a b l).2 + nth bd (min (lenF l) (b + k3)).toNat) ≤ nth bd a
def rpA (a : Nat) : Prop := (0 ≤ nth bd a ∧ nth bd a ≤ 1000000000000000) ∧ ((a : Int) < lenF l → nth bd (a + 1) ≤ nth bd a) ∧ ∀ b : Int, a + k1 ≤ b → b ≤ min (a + k2) (lenF l) → rpB l k1 k2 k3 bd a b
end
theorem rp_pv {l : List St} {k1 k2 k3 : Int} {bd : List Int} (hc : checkF l (k1, k2, k3) = 0) : provesF l k1 k2 k3 bd = true ↔ (bd.length : Int) = lenF l + 1 ∧ ∀ a : Nat, (a : Int) ≤ lenF l → rpA l k1 k2 k3 bd a := by
  have hok := checkF_ok hc
  have hl := wF_len l hok.2.1
  have hws := wF_in hok.2.1
  have hlf := lenF_bd hok.2.1
  have hvl : ∀ {a : Nat} {b : Int}, alF l k1 k2 a b = true → okB (wF l) k1 k2 ((a : Int), b) ∧ vlB (wF l) ((a : Int), b) = (b - a) * (woF a b l).2 := fun {a b} h => by
    have h1 : okB (wF l) k1 k2 ((a : Int), b) := (val_okB hok.2.2.2.1).1 ((val_al hok.2.1 hok.2.2.2.1).trans h)
    exact ⟨h1, by rw [← val_vlB hok.2.2.2.1 h1]; exact val_wo hok.2.1 h⟩
  have hal : ∀ {a : Nat} {b : Int}, okB (wF l) k1 k2 ((a : Int), b) → alF l k1 k2 a b = true := fun {a b} h => (val_al hok.2.1 hok.2.2.2.1).symm.trans ((val_okB hok.2.2.2.1).2 h)
  have hvb : ∀ {x : Bl}, okB (wF l) k1 k2 x → 0 ≤ vlB (wF l) x ∧ vlB (wF l) x ≤ 1000 * 3000 := fun {x} h => by
    obtain ⟨g1, g2, g3, g4, g5, g6⟩ := h
    have := lsF_bd hws x.1.toNat (x.2 - x.1).toNat
    unfold vlB
    refine ⟨Int.mul_nonneg (by omega) g6, ?_⟩
    have h1 : (x.2 - x.1) * lsF (wF l) x.1.toNat (x.2 - x.1).toNat ≤ (x.2 - x.1) * 1000 := Int.mul_le_mul_of_nonneg_left this.2 (by omega)
    omega
  unfold provesF
  rw [Bool.and_eq_true, decide_eq_true_eq]
  constructor
  · rintro ⟨_, hp⟩
    obtain ⟨h1, h2, h3⟩ := pvF_iff.1 hp
    have hin : ∀ i, i ≤ (wF l).length → 0 ≤ nth bd i ∧ nth bd i ≤ 1000000000000000 := fun i hi => h2 _ (nth_mem (by omega))
    refine ⟨by omega, fun a ha => ⟨hin a (by omega), fun hlt => (h3 a (by omega)).1, fun b hb1 hb2 hab => ?_⟩⟩
    obtain ⟨q1, q2⟩ := hvl hab
    have q3 := hvb q1
    have haf := q1.2.1
    simp only at haf
    have hi := hin (min (lenF l) (b + k3)).toNat (by omega)
    rw [wrap_inR (by simp only [inR]; rw [← q2]; omega)]
    have hm := (yF_mem (ws := wF l) (s2 := k2) hok.2.2.2.1 (f := a) (by have := q1.2.2.1; simp only at this; omega) (x := ((a : Int), b, vlB (wF l) ((a : Int), b)))).2 ⟨rfl, q1, rfl⟩
    have := (h3 a (by have := q1.2.2.1; simp only at this; omega)).2 _ hm
    simp only at this
    rw [q2] at this
    rw [show min (lenF l) (b + k3) = min (b + k3) (wF l).length by omega]
    exact this
  · rintro ⟨h1, h2⟩
    have hin : ∀ i, i ≤ (wF l).length → 0 ≤ nth bd i ∧ nth bd i ≤ 1000000000000000 := fun i hi => (h2 i (by omega)).1
    refine ⟨hc, pvF_iff.2 ⟨by omega, fun n hn => ?_, fun f hf => ⟨(h2 f (by omega)).2.1 (by omega), fun x hx => ?_⟩⟩⟩
    · obtain ⟨i, hi, rfl⟩ := List.mem_iff_getElem.1 hn
      have := hin i (by omega)
      rwa [nth_of (List.getElem?_eq_getElem hi)] at this
    · obtain ⟨q1, q2, q3⟩ := (yF_mem (ws := wF l) (s2 := k2) hok.2.2.2.1 (f := f) (by omega)).1 hx
      have q4 := hvl (hal q2)
      have q5 := hvb q2
      have hx2 := q2.2.1
      have hx3 := q2.2.2.1
      have hx4 := q2.2.2.2.1
      have hx5 := q2.2.2.2.2.1
      simp only at hx2 hx3 hx4 hx5
      have := (h2 f (by omega)).2.2 x.2.1 (by omega) (by omega) (hal q2)
      have hi := hin (min (lenF l) (x.2.1 + k3)).toNat (by omega)
      rw [wrap_inR (by simp only [inR]; rw [← q4.2]; omega)] at this
      rw [q3, q4.2, show min (x.2.1 + k3) ((wF l).length : Int) = min (lenF l) (x.2.1 + k3) by omega]
      exact this
end Go.Proofs.Ytlkfcbdbieenhaa
