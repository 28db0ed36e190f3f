/-
  TopWeighed, fourteenth walks: Fits.
-/
import Derived.Test.YthpnikalelookaaTwWD
namespace Go.Proofs.Ythpnikalelookaa
open Go.RowKit

/-- A recipe and a pile in memory of the call's own. -/
def KB (w W : World) (H g : Nat) (A : Option Addr) (n cap : Nat) (ml mh t0 u0 t1 u1 t2 u2 M a0 b0 a1 b1 a2 b2 : Int) : Prop := Bk W H 28 #[.slice A n cap, .int .i64 ml, .int .i64 mh, .int .i64 t0, .int .i64 u0, .int .i64 t1, .int .i64 u1, .int .i64 t2, .int .i64 u2] ∧ Bk W g 33 (cP M a0 b0 a1 b1 a2 b2) ∧ Below w.heap.size w W
theorem KB.below {w W W' : World} {H g : Nat} {A : Option Addr} {n cap : Nat} {ml mh t0 u0 t1 u1 t2 u2 M a0 b0 a1 b1 a2 b2 : Int} (h : KB w W H g A n cap ml mh t0 u0 t1 u1 t2 u2 M a0 b0 a1 b1 a2 b2) (hb : Below W.heap.size W W') : KB w W' H g A n cap ml mh t0 u0 t1 u1 t2 u2 M a0 b0 a1 b1 a2 b2 :=
  ⟨h.1.below hb h.1.lt, h.2.1.below hb h.2.1.lt, h.2.2.trans (hb.mono h.2.2.size)⟩
theorem KB.s {w W : World} {H g : Nat} {A : Option Addr} {n cap : Nat} {ml mh t0 u0 t1 u1 t2 u2 M a0 b0 a1 b1 a2 b2 : Int} (h : KB w W H g A n cap ml mh t0 u0 t1 u1 t2 u2 M a0 b0 a1 b1 a2 b2) :
    W.cell? ⟨H, 0, none⟩ = some (.slice A n cap) ∧ W.cell? ⟨H, 1, none⟩ = some (.int .i64 ml) ∧ W.cell? ⟨H, 2, none⟩ = some (.int .i64 mh) ∧ W.cell? ⟨H, 3, none⟩ = some (.int .i64 t0) ∧ W.cell? ⟨H, 4, none⟩ = some (.int .i64 u0) ∧ W.cell? ⟨H, 5, none⟩ = some (.int .i64 t1) ∧ W.cell? ⟨H, 6, none⟩ = some (.int .i64 u1) ∧ W.cell? ⟨H, 7, none⟩ = some (.int .i64 t2) ∧ W.cell? ⟨H, 8, none⟩ = some (.int .i64 u2) ∧ W.cell? ⟨g, 0, none⟩ = some (.int .i64 M) ∧ W.cell? ⟨g, 1, none⟩ = some (.int .i64 a0) ∧ W.cell? ⟨g, 2, none⟩ = some (.int .i64 b0) ∧ W.cell? ⟨g, 3, none⟩ = some (.int .i64 a1) ∧ W.cell? ⟨g, 4, none⟩ = some (.int .i64 b1) ∧ W.cell? ⟨g, 5, none⟩ = some (.int .i64 a2) ∧ W.cell? ⟨g, 6, none⟩ = some (.int .i64 b2) := by
  obtain ⟨r0, r1, r2, r3, r4, r5, r6, r7, r8⟩ := h.1.recipe
  obtain ⟨⟨p0, p1, p2, p3, p4, p5, p6⟩, -⟩ := h.2.1.pile
  exact ⟨r0, r1, r2, r3, r4, r5, r6, r7, r8, p0, p1, p2, p3, p4, p5, p6⟩

/-- The margins of a charge. -/
def marg (ml mh t0 u0 t1 u1 t2 u2 M a0 b0 a1 b1 a2 b2 : Int) : List Int :=
  [-ml + M, mh + -M, (u0 * M - 1000000 * b0), (1000000 * a0 - t0 * M), (u1 * M - 1000000 * b1), (1000000 * a1 - t1 * M), (u2 * M - 1000000 * b2), (1000000 * a2 - t2 * M)]

theorem sF_bd6 (f : LotP → Int) (hf : ∀ x, lotB x = true → 0 ≤ f x ∧ f x ≤ 1000000) {z : List (LotP × Int)} (h : ∀ p ∈ z, lotB p.1 = true ∧ 0 ≤ p.2 ∧ p.2 ≤ 1000) : 0 ≤ sF f z ∧ sF f z ≤ 1000000000 * (z.length : Int) := by
  induction z with
  | nil => simp [sF]
  | cons p z ih =>
    have h1 := ih (fun q hq => h q (List.mem_cons_of_mem _ hq))
    obtain ⟨h2, h3, h4⟩ := h p List.mem_cons_self
    have h5 : 0 ≤ p.2 * f p.1 := Int.mul_nonneg h3 (hf _ h2).1
    have h6 : p.2 * f p.1 ≤ 1000 * 1000000 := Int.mul_le_mul h4 (hf _ h2).2 (hf _ h2).1 (by omega)
    simp only [sF, List.map_cons, List.sum_cons, List.length_cons] at *
    omega
/-- What a valid charge contains is bounded. -/
structure Bd (ml mh t0 u0 t1 u1 t2 u2 M a0 b0 a1 b1 a2 b2 : Int) : Prop where
  hm : 0 ≤ ml ∧ ml ≤ mh ∧ mh ≤ 1000000000
  h0 : 0 ≤ t0 ∧ t0 ≤ u0 ∧ u0 ≤ 100000000
  h1 : 0 ≤ t1 ∧ t1 ≤ u1 ∧ u1 ≤ 100000000
  h2 : 0 ≤ t2 ∧ t2 ≤ u2 ∧ u2 ≤ 100000000
  hM : 0 ≤ M ∧ M ≤ 10000000000
  ha0 : 0 ≤ a0 ∧ a0 ≤ 1000000000000
  hb0 : 0 ≤ b0 ∧ b0 ≤ 1000000000000
  ha1 : 0 ≤ a1 ∧ a1 ≤ 1000000000000
  hb1 : 0 ≤ b1 ∧ b1 ≤ 1000000000000
  ha2 : 0 ≤ a2 ∧ a2 ≤ 1000000000000
  hb2 : 0 ≤ b2 ∧ b2 ≤ 1000000000000
theorem Bd.of {l : List LotP} {ns : List Int} {ml mh t0 u0 t1 u1 t2 u2 : Int} (hc : chkF l ml mh t0 u0 t1 u1 t2 u2 = 0) (hf : fitC l ns = true) :
    Bd ml mh t0 u0 t1 u1 t2 u2 (sF LotP.mass (l.zip ns)) (sF LotP.l0 (l.zip ns)) (sF LotP.h0 (l.zip ns)) (sF LotP.l1 (l.zip ns)) (sF LotP.h1 (l.zip ns)) (sF LotP.l2 (l.zip ns)) (sF LotP.h2 (l.zip ns)) := by
  obtain ⟨c1, c2, c3, c4⟩ := chkF_zero hc
  have hz := okZ_of c1 c2 hf
  have c3' := rngB_t.1 c3
  have c4' := bndB_t.1 c4
  have hl := hz.1
  have g : ∀ f : LotP → Int, (∀ x, lotB x = true → 0 ≤ f x ∧ f x ≤ 100000000) → 0 ≤ sF f (l.zip ns) ∧ sF f (l.zip ns) ≤ 1000000000000 := fun f hf => by
    have := sF_bd f hf hz.2
    omega
  have gm := sF_bd6 LotP.mass (fun x h => by have := lotB_t.1 h; omega) hz.2
  exact ⟨c3', c4'.1, c4'.2.1, c4'.2.2, ⟨gm.1, by omega⟩, g _ f_l0, g _ f_h0, g _ f_l1, g _ f_h1, g _ f_l2, g _ f_h2⟩
theorem mulT {t M : Int} (h0 : 0 ≤ t) (h1 : t ≤ 100000000) (m0 : 0 ≤ M) (m1 : M ≤ 10000000000) : 0 ≤ t * M ∧ t * M ≤ 1000000000000000000 :=
  ⟨Int.mul_nonneg h0 m0, Int.le_trans (Int.mul_le_mul h1 m1 m0 (by omega)) (by decide)⟩

set_option maxRecDepth 100000 in
set_option maxHeartbeats 4000000 in
theorem fits_law (A : Option Addr) (n cap B : Nat) (l : List LotP) (A2 : Option Addr) (n2 cap2 B2 : Nat) (ns : List Int) (ml mh t0 u0 t1 u1 t2 u2 : Int) (w : World) (h : Sl eLot 9 w B A n l) (hB : B ≤ w.heap.size) (hn : n ≤ 10)
    (h2 : Sl eI 1 w B2 A2 n2 ns) (hB2 : B2 ≤ w.heap.size) (hn2 : n2 ≤ 10) (hc : chkF l ml mh t0 u0 t1 u1 t2 u2 = 0) (hf : fitC l ns = true) :
    Calls Try.prog 10 #[vM A n cap ml mh t0 u0 t1 u1 t2 u2, .slice A2 n2 cap2] w fun e w' => e = .returned (.tuple #[.int .i64 (idxF (fun x => decide (x < 0)) (marg ml mh t0 u0 t1 u1 t2 u2 (sF LotP.mass (l.zip ns)) (sF LotP.l0 (l.zip ns)) (sF LotP.h0 (l.zip ns)) (sF LotP.l1 (l.zip ns)) (sF LotP.h1 (l.zip ns)) (sF LotP.l2 (l.zip ns)) (sF LotP.h2 (l.zip ns)))), .int .i64 0]) ∧ Below w.heap.size w w' := by
  have C1 := Lib.hid (fun W (hb : Below w.heap.size w W) => bigWeigh_any A n cap B l A2 n2 cap2 B2 ns ml mh t0 u0 t1 u1 t2 u2 W (h.below (hb.mono hB)) (Nat.le_trans hB hb.size) hn (h2.below (hb.mono hB2)) (Nat.le_trans hB2 hb.size) hn2)
  have bd := Bd.of hc hf
  have HW := Lib.hid (fun e => show Weighed l ns ml mh t0 u0 t1 u1 t2 u2 e → e = .returned (.tuple #[.agg (pF (l.zip ns)), .int .i64 0]) from (fun hw => by
    rcases hw with ⟨-, -, he⟩ | ⟨hno, -⟩
    · exact he
    · exact absurd ⟨hc, hf⟩ hno))
  clear hc hf h h2
  have hpf : pF (l.zip ns) = cP (sF LotP.mass (l.zip ns)) (sF LotP.l0 (l.zip ns)) (sF LotP.h0 (l.zip ns)) (sF LotP.l1 (l.zip ns)) (sF LotP.h1 (l.zip ns)) (sF LotP.l2 (l.zip ns)) (sF LotP.h2 (l.zip ns)) := rfl
  rw [hpf] at HW
  clear hpf
  generalize sF LotP.mass (l.zip ns) = M at *
  generalize sF LotP.l0 (l.zip ns) = a0 at *
  generalize sF LotP.h0 (l.zip ns) = b0 at *
  generalize sF LotP.l1 (l.zip ns) = a1 at *
  generalize sF LotP.h1 (l.zip ns) = b1 at *
  generalize sF LotP.l2 (l.zip ns) = a2 at *
  generalize sF LotP.h2 (l.zip ns) = b2 at *
  have T0 := mulT bd.h0.1 (by have := bd.h0; omega) bd.hM.1 bd.hM.2
  have U0 := mulT (t := u0) (by have := bd.h0; omega) (by have := bd.h0; omega) bd.hM.1 bd.hM.2
  have T1 := mulT bd.h1.1 (by have := bd.h1; omega) bd.hM.1 bd.hM.2
  have U1 := mulT (t := u1) (by have := bd.h1; omega) (by have := bd.h1; omega) bd.hM.1 bd.hM.2
  have T2 := mulT bd.h2.1 (by have := bd.h2; omega) bd.hM.1 bd.hM.2
  have U2 := mulT (t := u2) (by have := bd.h2; omega) (by have := bd.h2; omega) bd.hM.1 bd.hM.2
  have BA := Lib.hid (base_any A n cap ml mh t0 u0 t1 u1 t2 u2 bd.hm.1 (by have := bd.hm; omega))
  have OF := Lib.hid (fun w => of_any A n cap ml mh t0 u0 t1 u1 t2 u2 M a0 b0 a1 b1 a2 b2 w _ _ _ _ _ _ rfl rfl rfl rfl rfl rfl bd.hM T0 U0 T1 U1 T2 U2 bd.ha0 bd.hb0 bd.ha1 bd.hb1 bd.ha2 bd.hb2)
  have PL := Lib.hid (plus_any (-ml) mh 0 0 0 0 0 0 M (-M) (u0 * M - 1000000 * b0) (1000000 * a0 - t0 * M) (u1 * M - 1000000 * b1) (1000000 * a1 - t1 * M) (u2 * M - 1000000 * b2) (1000000 * a2 - t2 * M)
    (fun x hx => by have h0 := bd.hm; simp only [List.mem_cons, List.not_mem_nil, or_false] at hx; unfold smM; omega)
    (fun x hx => by obtain ⟨hm, h0, h1, h2, hM, ha0, hb0, ha1, hb1, ha2, hb2⟩ := bd; simp only [List.mem_cons, List.not_mem_nil, or_false] at hx; unfold smM; omega))
  have BR := Lib.hid (broken_any (-ml + M) (mh + -M) (0 + (u0 * M - 1000000 * b0)) (0 + (1000000 * a0 - t0 * M)) (0 + (u1 * M - 1000000 * b1)) (0 + (1000000 * a1 - t1 * M)) (0 + (u2 * M - 1000000 * b2)) (0 + (1000000 * a2 - t2 * M)))
  have HB0 := Lib.hid ((Below.refl w.heap.size w).alloc (Nat.le_refl _) (.cells #[.slice A n cap, .int .i64 ml, .int .i64 mh, .int .i64 t0, .int .i64 u0, .int .i64 t1, .int .i64 u1, .int .i64 t2, .int .i64 u2] 28))
  have K0 := Lib.hid (Bk.newAt w #[.slice A n cap, .int .i64 ml, .int .i64 mh, .int .i64 t0, .int .i64 u0, .int .i64 t1, .int .i64 u1, .int .i64 t2, .int .i64 u2] 28 w.heap.size rfl)
  unfold marg
  generalize u0 * M - 1000000 * b0 = o2 at *
  generalize 1000000 * a0 - t0 * M = o3 at *
  generalize u1 * M - 1000000 * b1 = o4 at *
  generalize 1000000 * a1 - t1 * M = o5 at *
  generalize u2 * M - 1000000 * b2 = o6 at *
  generalize 1000000 * a2 - t2 * M = o7 at *
  clear T0 U0 T1 U1 T2 U2 bd
  unfold vM cM at *
  simp only [Int.zero_add] at PL BR
  go_enter Try.func10, Try.ntmps10
  go_wp2_with fail
  refine (C1.out _ HB0.out).mono ?_
  rintro e w1 ⟨hw, hb1⟩
  obtain rfl := HW.out e hw
  have hz1 := hb1.size
  simp at hz1
  have kb : KB w (w1.alloc (.cells (cP M a0 b0 a1 b1 a2 b2) 33)).drew w.heap.size w1.heap.size A n cap ml mh t0 u0 t1 u1 t2 u2 M a0 b0 a1 b1 a2 b2 :=
    ⟨((K0.out.below hb1 (by simp)).alloc _).drew, (Bk.newAt w1 _ _ w1.heap.size rfl).drew, ((HB0.out.trans (hb1.mono (by simp))).alloc (by omega) _).drew⟩
  clear hb1 hw HB0 K0 C1 HW
  have hcp : cP M a0 b0 a1 b1 a2 b2 = #[.int .i64 M, .int .i64 a0, .int .i64 b0, .int .i64 a1, .int .i64 b1, .int .i64 a2, .int .i64 b2] := rfl
  rw [hcp]
  rw [hcp] at kb OF
  clear hcp
  go_wp2
  go_region_held3 (fun w' => w'.cell? ⟨w.heap.size, 0, none⟩ = some (.slice A n cap) ∧ w'.cell? ⟨w.heap.size, 1, none⟩ = some (.int .i64 ml) ∧ w'.cell? ⟨w.heap.size, 2, none⟩ = some (.int .i64 mh) ∧ w'.cell? ⟨w.heap.size, 3, none⟩ = some (.int .i64 t0) ∧ w'.cell? ⟨w.heap.size, 4, none⟩ = some (.int .i64 u0) ∧ w'.cell? ⟨w.heap.size, 5, none⟩ = some (.int .i64 t1) ∧ w'.cell? ⟨w.heap.size, 6, none⟩ = some (.int .i64 u1) ∧ w'.cell? ⟨w.heap.size, 7, none⟩ = some (.int .i64 t2) ∧ w'.cell? ⟨w.heap.size, 8, none⟩ = some (.int .i64 u2) ∧ w'.cell? ⟨w1.heap.size, 0, none⟩ = some (.int .i64 M) ∧ w'.cell? ⟨w1.heap.size, 1, none⟩ = some (.int .i64 a0) ∧ w'.cell? ⟨w1.heap.size, 2, none⟩ = some (.int .i64 b0) ∧ w'.cell? ⟨w1.heap.size, 3, none⟩ = some (.int .i64 a1) ∧ w'.cell? ⟨w1.heap.size, 4, none⟩ = some (.int .i64 b1) ∧ w'.cell? ⟨w1.heap.size, 5, none⟩ = some (.int .i64 a2) ∧ w'.cell? ⟨w1.heap.size, 6, none⟩ = some (.int .i64 b2)) (exact kb.s) (first | (go_at_call 22; refine (BA.out _).mono ?_; rintro e w2 ⟨rfl, hb2⟩; have kb := kb.below hb2) | (go_at_call 24; refine (OF.out _).mono ?_; rintro e w2 ⟨rfl, hb2⟩; have kb := kb.below hb2) | (go_at_call 23; refine (PL.out _).mono ?_; rintro e w2 ⟨rfl, hb2⟩; have kb := kb.below hb2) | (go_at_call 25; refine (BR.out _).mono ?_; rintro e w2 ⟨rfl, hb2⟩; have kb := kb.below hb2))
  all_goals
    have hbb := kb.2.2
    clear hb2 kb
    go_wp2
    go_ret2
    exact ⟨rfl, hbb⟩
end Go.Proofs.Ythpnikalelookaa
