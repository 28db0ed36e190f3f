/-
  TopWeighed, eleventh walks: weigh, Weigh.
-/
import Derived.Test.YthpnikalelookaaTwWA
namespace Go.Proofs.Ythpnikalelookaa
open Go.RowKit

/-- The sum over all lots of so many times something of a piece. -/
def sF (f : LotP → Int) (z : List (LotP × Int)) : Int := (z.map fun p => p.2 * f p.1).sum
theorem sF_snoc (f : LotP → Int) (z : List (LotP × Int)) (x : LotP) (n : Int) : sF f (z ++ [(x, n)]) = sF f z + n * f x := by simp [sF]
/-- Valid lots, and numbers of pieces that there are. -/
def okZ (z : List (LotP × Int)) : Prop := z.length ≤ 10 ∧ ∀ p ∈ z, lotB p.1 = true ∧ 0 ≤ p.2 ∧ p.2 ≤ 1000
theorem okZ.take {z : List (LotP × Int)} (h : okZ z) (k : Nat) : okZ (z.take k) := ⟨Nat.le_trans (List.length_take_le' _ _) h.1, fun p hp => h.2 p (List.mem_of_mem_take hp)⟩
theorem term_bd {n c : Int} (h0 : 0 ≤ n) (h1 : n ≤ 1000) (c0 : 0 ≤ c) (c1 : c ≤ 100000000) : 0 ≤ n * c ∧ n * c ≤ 100000000000 :=
  ⟨Int.mul_nonneg h0 c0, Int.le_trans (Int.mul_le_mul h1 c1 c0 (by omega)) (by decide)⟩
theorem sF_bd (f : LotP → Int) (hf : ∀ x, lotB x = true → 0 ≤ f x ∧ f x ≤ 100000000) {z : List (LotP × Int)} (h : ∀ p ∈ z, lotB p.1 = true ∧ 0 ≤ p.2 ∧ p.2 ≤ 1000) : 0 ≤ sF f z ∧ sF f z ≤ 100000000000 * (z.length : Int) := by
  induction z with
  | nil => simp [sF]
  | cons p z ih =>
    have h1 := ih (fun q hq => h q (List.mem_cons_of_mem _ hq))
    obtain ⟨h2, h3, h4⟩ := h p List.mem_cons_self
    have h5 := term_bd h3 h4 (hf _ h2).1 (hf _ h2).2
    simp only [sF, List.map_cons, List.sum_cons, List.length_cons] at *
    omega
theorem okZ.sm {z : List (LotP × Int)} (h : okZ z) (f : LotP → Int) (hf : ∀ x, lotB x = true → 0 ≤ f x ∧ f x ≤ 100000000) : smP (sF f z) := by
  have h1 := sF_bd f hf h.2
  have h2 := h.1
  unfold smP
  omega
theorem f_mass : ∀ x : LotP, lotB x = true → 0 ≤ x.mass ∧ x.mass ≤ 100000000 := fun x h => by have := lotB_t.1 h; omega
theorem f_l0 : ∀ x : LotP, lotB x = true → 0 ≤ x.l0 ∧ x.l0 ≤ 100000000 := fun x h => by have := lotB_t.1 h; omega
theorem f_h0 : ∀ x : LotP, lotB x = true → 0 ≤ x.h0 ∧ x.h0 ≤ 100000000 := fun x h => by have := lotB_t.1 h; omega
theorem f_l1 : ∀ x : LotP, lotB x = true → 0 ≤ x.l1 ∧ x.l1 ≤ 100000000 := fun x h => by have := lotB_t.1 h; omega
theorem f_h1 : ∀ x : LotP, lotB x = true → 0 ≤ x.h1 ∧ x.h1 ≤ 100000000 := fun x h => by have := lotB_t.1 h; omega
theorem f_l2 : ∀ x : LotP, lotB x = true → 0 ≤ x.l2 ∧ x.l2 ≤ 100000000 := fun x h => by have := lotB_t.1 h; omega
theorem f_h2 : ∀ x : LotP, lotB x = true → 0 ≤ x.h2 ∧ x.h2 ≤ 100000000 := fun x h => by have := lotB_t.1 h; omega
/-- The cells of what is weighed. -/
def pF (z : List (LotP × Int)) : Array Value := cP (sF LotP.mass z) (sF LotP.l0 z) (sF LotP.h0 z) (sF LotP.l1 z) (sF LotP.h1 z) (sF LotP.l2 z) (sF LotP.h2 z)
theorem pF_snoc (z : List (LotP × Int)) (x : LotP) (n : Int) : pF (z ++ [(x, n)]) = cP (sF LotP.mass z + n * x.mass) (sF LotP.l0 z + n * x.l0) (sF LotP.h0 z + n * x.h0) (sF LotP.l1 z + n * x.l1) (sF LotP.h1 z + n * x.h1) (sF LotP.l2 z + n * x.l2) (sF LotP.h2 z + n * x.h2) := by
  unfold pF; simp only [sF_snoc]

set_option maxHeartbeats 1000000 in
theorem weigh_any (A : Option Addr) (n cap B : Nat) (l : List LotP) (A2 : Option Addr) (cap2 B2 : Nat) (ns : List Int) (ml mh t0 u0 t1 u1 t2 u2 : Int) (w : World) (h : Sl eLot 9 w B A n l) (hB : B ≤ w.heap.size) (hn : n ≤ 10)
    (h2 : Sl eI 1 w B2 A2 n ns) (hB2 : B2 ≤ w.heap.size) (hz : okZ (l.zip ns)) :
    Calls Try.prog 13 #[vM A n cap ml mh t0 u0 t1 u1 t2 u2, .slice A2 n cap2] w fun e w' => e = .returned (.agg (pF (l.zip ns))) ∧ Below w.heap.size w w' := by
  have hlen := h.len
  have hlen2 := h2.len
  have HZ := Lib.hid hz
  clear hz
  unfold vM
  go_enter Try.func13, Try.ntmps13
  go_wp2
  go_loopw [9] (fun i wr => ∃ k : Nat, k ≤ n ∧ i = .int .i64 k ∧ Below w.heap.size w wr ∧ Bk wr w.heap.size 28 #[.slice A n cap, .int .i64 ml, .int .i64 mh, .int .i64 t0, .int .i64 u0, .int .i64 t1, .int .i64 u1, .int .i64 t2, .int .i64 u2] ∧ Bk wr (w.heap.size + 1) 33 (pF ((l.zip ns).take k))) (fun i _ => n - (intOf i).toNat)
  case atStart => exact ⟨0, Nat.zero_le _, rfl, ((Below.refl _ _).alloc (Nat.le_refl _) _).alloc (by simp) _, (Bk.newAt w _ _ w.heap.size rfl).alloc _, Bk.newAt (w.alloc _) _ _ (w.heap.size + 1) (by simp)⟩
  case round =>
    obtain ⟨k, hk, rfl, hbl, hr, hp⟩ := hrel
    have c0 : wr.cell? ⟨w.heap.size, 0, none⟩ = some (.slice A n cap) := hr.cell rfl
    have hlt := hp.lt
    have HR := Lib.hid hr
    have HP := Lib.hid hp
    have HB := Lib.hid hbl
    by_cases hk1 : k < n
    · obtain ⟨m, hm⟩ := h2.get hk1
      obtain ⟨b2, off2, rfl, hb2, d1⟩ := (h2.below (hbl.mono hB2)).at1 hm
      obtain ⟨x, hx⟩ := h.get hk1
      obtain ⟨b, off, rfl, hb, e0, e1, e2, e3, e4, e5, e6, e7, e8⟩ := (h.below (hbl.mono hB)).atLot hx
      have hzk : (l.zip ns)[k]? = some (x, m) := by rw [List.getElem?_zip_eq_some]; exact ⟨hx, hm⟩
      have HZK := Lib.hid hzk
      have hok := HZ.out.2 _ (List.mem_of_getElem? hzk)
      have ho := HZ.out.take k
      have S0 := Lib.hid (ho.sm _ f_mass)
      have S1 := Lib.hid (ho.sm _ f_l0)
      have S2 := Lib.hid (ho.sm _ f_h0)
      have S3 := Lib.hid (ho.sm _ f_l1)
      have S4 := Lib.hid (ho.sm _ f_h1)
      have S5 := Lib.hid (ho.sm _ f_l2)
      have S6 := Lib.hid (ho.sm _ f_h2)
      obtain ⟨o1, o2, o3⟩ := hok
      simp only at o1 o2 o3
      have tb : ∀ c : Int, 0 ≤ c ∧ c ≤ 100000000 → smP (m * c) := fun c hc => by have := term_bd o2 o3 hc.1 hc.2; unfold smP; omega
      have T0 := Lib.hid (tb _ (f_mass x o1))
      have T1 := Lib.hid (tb _ (f_l0 x o1))
      have T2 := Lib.hid (tb _ (f_h0 x o1))
      have T3 := Lib.hid (tb _ (f_l1 x o1))
      have T4 := Lib.hid (tb _ (f_h1 x o1))
      have T5 := Lib.hid (tb _ (f_l2 x o1))
      have T6 := Lib.hid (tb _ (f_h2 x o1))
      clear tb hzk hx hm ho hr hp hbl o1
      go_wp2_with fail
      refine (put_any (w.heap.size + 1) _ _ _ _ _ _ _ x.cnt x.mass x.l0 x.h0 x.l1 x.h1 x.l2 x.h2 x.cost m wr HP.out _ _ _ _ _ _ _ rfl rfl rfl rfl rfl rfl rfl S0.out S1.out S2.out S3.out S4.out S5.out S6.out T0.out T1.out T2.out T3.out T4.out T5.out T6.out).mono ?_
      rintro e w1 ⟨rfl, hp1, hg1⟩
      have HP1 := Lib.hid hp1
      have HG1 := Lib.hid hg1
      clear hp1 hg1
      go_wp2
      go_roundw
      case rel =>
        refine ⟨k + 1, by omega, by go_num, below_of_grown HB.out HG1.out (by omega) (by omega), HR.out.grown HG1.out (by simp), ?_⟩
        rw [take_snoc HZK.out, pF_snoc]
        exact HP1.out
      case measure => simp [intOf]; omega
    · have ht : (l.zip ns).take k = l.zip ns := List.take_of_length_le (by simp; omega)
      rw [ht] at hp
      unfold pF cP at hp
      have p0 := hp.cell (j := 0) rfl
      have p1 := hp.cell (j := 1) rfl
      have p2 := hp.cell (j := 2) rfl
      have p3 := hp.cell (j := 3) rfl
      have p4 := hp.cell (j := 4) rfl
      have p5 := hp.cell (j := 5) rfl
      have p6 := hp.cell (j := 6) rfl
      have fz := hp.frozen
      have f0 := fz 0
      have f1 := fz 1
      have f2 := fz 2
      have f3 := fz 3
      have f4 := fz 4
      have f5 := fz 5
      have f6 := fz 6
      clear fz hp hr HP
      go_wp2
      refine bodyPost_ret (v := .agg (pF (l.zip ns))) (by simp [results, Try.results13, go_sem, pF, cP, p0, p1, p2, p3, p4, p5, p6]) rfl ⟨rfl, ?_⟩
      exact ((((((hbl.setCell (Nat.le_succ _) _).setCell (Nat.le_succ _) _).setCell (Nat.le_succ _) _).setCell (Nat.le_succ _) _).setCell (Nat.le_succ _) _).setCell (Nat.le_succ _) _).setCell (Nat.le_succ _) _

theorem Bk.pile {w : World} {g : Nat} {t : TypeId} {m a0 b0 a1 b1 a2 b2 : Int} (h : Bk w g t (cP m a0 b0 a1 b1 a2 b2)) :
    (w.cell? ⟨g, 0, none⟩ = some (.int .i64 m) ∧ w.cell? ⟨g, 1, none⟩ = some (.int .i64 a0) ∧ w.cell? ⟨g, 2, none⟩ = some (.int .i64 b0) ∧ w.cell? ⟨g, 3, none⟩ = some (.int .i64 a1) ∧ w.cell? ⟨g, 4, none⟩ = some (.int .i64 b1) ∧ w.cell? ⟨g, 5, none⟩ = some (.int .i64 a2) ∧ w.cell? ⟨g, 6, none⟩ = some (.int .i64 b2)) ∧
    (w.frozen? ⟨g, 0, none⟩ = false ∧ w.frozen? ⟨g, 1, none⟩ = false ∧ w.frozen? ⟨g, 2, none⟩ = false ∧ w.frozen? ⟨g, 3, none⟩ = false ∧ w.frozen? ⟨g, 4, none⟩ = false ∧ w.frozen? ⟨g, 5, none⟩ = false ∧ w.frozen? ⟨g, 6, none⟩ = false) :=
  ⟨⟨h.cell rfl, h.cell rfl, h.cell rfl, h.cell rfl, h.cell rfl, h.cell rfl, h.cell rfl⟩, ⟨h.frozen 0, h.frozen 1, h.frozen 2, h.frozen 3, h.frozen 4, h.frozen 5, h.frozen 6⟩⟩
theorem Bk.recipe {w : World} {g : Nat} {t : TypeId} {v0 v1 v2 v3 v4 v5 v6 v7 v8 : Value} (h : Bk w g t #[v0, v1, v2, v3, v4, v5, v6, v7, v8]) :
    w.cell? ⟨g, 0, none⟩ = some v0 ∧ w.cell? ⟨g, 1, none⟩ = some v1 ∧ w.cell? ⟨g, 2, none⟩ = some v2 ∧ w.cell? ⟨g, 3, none⟩ = some v3 ∧ w.cell? ⟨g, 4, none⟩ = some v4 ∧ w.cell? ⟨g, 5, none⟩ = some v5 ∧ w.cell? ⟨g, 6, none⟩ = some v6 ∧ w.cell? ⟨g, 7, none⟩ = some v7 ∧ w.cell? ⟨g, 8, none⟩ = some v8 :=
  ⟨h.cell rfl, h.cell rfl, h.cell rfl, h.cell rfl, h.cell rfl, h.cell rfl, h.cell rfl, h.cell rfl, h.cell rfl⟩
theorem below7 {B g : Nat} {w w' : World} (h : Below B w w') (hg : B ≤ g) (v0 v1 v2 v3 v4 v5 v6 : Value) : Below B w (((((((w'.setCell ⟨g, 0, none⟩ v0).setCell ⟨g, 1, none⟩ v1).setCell ⟨g, 2, none⟩ v2).setCell ⟨g, 3, none⟩ v3).setCell ⟨g, 4, none⟩ v4).setCell ⟨g, 5, none⟩ v5).setCell ⟨g, 6, none⟩ v6) :=
  ((((((h.setCell hg _).setCell hg _).setCell hg _).setCell hg _).setCell hg _).setCell hg _).setCell hg _

theorem chkF_zero {l : List LotP} {ml mh t0 u0 t1 u1 t2 u2 : Int} (h : chkF l ml mh t0 u0 t1 u1 t2 u2 = 0) : l.length ≤ 6 ∧ (∀ x ∈ l, lotB x = true) ∧ rngB ml mh 1000000000 = true ∧ bndB t0 u0 t1 u1 t2 u2 = true := by
  unfold chkF at h
  split at h
  · omega
  · split at h
    · omega
    · split at h
      · omega
      · split at h
        · omega
        · rename_i h1 h2 h3 h4
          refine ⟨by omega, fun x hx => ?_, by simpa using h3, by simpa using h4⟩
          simp only [List.any_eq_true, not_exists, not_and] at h2
          simpa using h2 x hx
theorem okZ_of {l : List LotP} {ns : List Int} (h6 : l.length ≤ 6) (hl : ∀ x ∈ l, lotB x = true) (hf : fitC l ns = true) : okZ (l.zip ns) := by
  refine ⟨by have := fitC_len hf; simp; omega, fun p hp => ?_⟩
  obtain ⟨k, hk⟩ := List.getElem?_of_mem hp
  rw [List.getElem?_zip_eq_some] at hk
  have h1 := hl _ (List.mem_of_getElem? hk.1)
  have h2 := inB_t.1 (fitC_at hf hk.1 hk.2)
  have h3 := lotB_t.1 h1
  exact ⟨h1, h2.1, by omega⟩

/-- What Weigh answers. -/
def Weighed (l : List LotP) (ns : List Int) (ml mh t0 u0 t1 u1 t2 u2 : Int) (e : Ending) : Prop :=
  (chkF l ml mh t0 u0 t1 u1 t2 u2 = 0 ∧ fitC l ns = true ∧ e = .returned (.tuple #[.agg (pF (l.zip ns)), .int .i64 0])) ∨
  (¬ (chkF l ml mh t0 u0 t1 u1 t2 u2 = 0 ∧ fitC l ns = true) ∧ ∃ r : Int, r ≠ 0 ∧ e = .returned (.tuple #[.agg (cP 0 0 0 0 0 0 0), .int .i64 r]))

set_option maxHeartbeats 1000000 in
theorem bigWeigh_any (A : Option Addr) (n cap B : Nat) (l : List LotP) (A2 : Option Addr) (n2 cap2 B2 : Nat) (ns : List Int) (ml mh t0 u0 t1 u1 t2 u2 : Int) (w : World) (h : Sl eLot 9 w B A n l) (hB : B ≤ w.heap.size) (hn : n ≤ 10)
    (h2 : Sl eI 1 w B2 A2 n2 ns) (hB2 : B2 ≤ w.heap.size) (hn2 : n2 ≤ 10) :
    Calls Try.prog 6 #[vM A n cap ml mh t0 u0 t1 u1 t2 u2, .slice A2 n2 cap2] w fun e w' => Weighed l ns ml mh t0 u0 t1 u1 t2 u2 e ∧ Below w.heap.size w w' := by
  have hlen := h.len
  have hlen2 := h2.len
  have C1 := Lib.hid (fun W (hb : Below w.heap.size w W) => check_any A n cap B l ml mh t0 u0 t1 u1 t2 u2 W (h.below (hb.mono hB)) (Nat.le_trans hB hb.size) (by omega))
  have C2 := Lib.hid (fun W (hb : Below w.heap.size w W) => isCharge_any A n cap B l A2 n2 cap2 B2 ns ml mh t0 u0 t1 u1 t2 u2 W (h.below (hb.mono hB)) (Nat.le_trans hB hb.size) (by omega) (h2.below (hb.mono hB2)) (Nat.le_trans hB2 hb.size) (by omega))
  have HB0 := Lib.hid (((Below.refl w.heap.size w).alloc (Nat.le_refl _) (.cells #[.slice A n cap, .int .i64 ml, .int .i64 mh, .int .i64 t0, .int .i64 u0, .int .i64 t1, .int .i64 u1, .int .i64 t2, .int .i64 u2] 28)).alloc (by simp) (.cells (cP 0 0 0 0 0 0 0) 33))
  have K0 := Lib.hid ((Bk.newAt w #[.slice A n cap, .int .i64 ml, .int .i64 mh, .int .i64 t0, .int .i64 u0, .int .i64 t1, .int .i64 u1, .int .i64 t2, .int .i64 u2] 28 w.heap.size rfl).alloc (.cells (cP 0 0 0 0 0 0 0) 33))
  have K1 := Lib.hid (Bk.newAt (w.alloc (.cells #[.slice A n cap, .int .i64 ml, .int .i64 mh, .int .i64 t0, .int .i64 u0, .int .i64 t1, .int .i64 u1, .int .i64 t2, .int .i64 u2] 28)) (cP 0 0 0 0 0 0 0) 33 (w.heap.size + 1) (by simp))
  unfold vM at *
  generalize hc : chkF l ml mh t0 u0 t1 u1 t2 u2 = c at *
  have HC := Lib.hid hc
  clear hc
  by_cases hc0 : c = 0
  · subst hc0
    cases hf : fitC l ns
    all_goals
      have HF := Lib.hid hf
      clear hf
      go_enter Try.func6, Try.ntmps6
      go_wp2_with fail
      refine (C1.out _ HB0.out).mono ?_
      rintro e w1 ⟨rfl, hb1⟩
      have hz1 := hb1.size
      simp at hz1
      have k0 := K0.out.below hb1 (by simp <;> omega)
      have k1 := K1.out.below hb1 (by simp <;> omega)
      have HB1 := Lib.hid (HB0.out.trans (hb1.mono (by simp <;> omega)))
      obtain ⟨r0, r1, r2, r3, r4, r5, r6, r7, r8⟩ := k0.recipe
      have J0 := Lib.hid k0
      have J1 := Lib.hid k1
      clear hb1 k0 k1
      go_wp2_with fail
      refine (C2.out _ HB1.out).mono ?_
      rintro e w2 ⟨rfl, hb2⟩
      rw [HF.out]
      have hz2 := hb2.size
      have k0 := J0.out.below hb2 (by omega)
      have k1 := J1.out.below hb2 (by omega)
      have HB2 := Lib.hid (HB1.out.trans (hb2.mono (by omega)))
      clear J0 J1 r0 r1 r2 r3 r4 r5 r6 r7 r8 hb2
      obtain ⟨r0, r1, r2, r3, r4, r5, r6, r7, r8⟩ := k0.recipe
    · obtain ⟨⟨p0, p1, p2, p3, p4, p5, p6⟩, ⟨f0, f1, f2, f3, f4, f5, f6⟩⟩ := k1.pile
      clear k0 k1
      go_wp2
      refine bodyPost_ret (v := .tuple #[.agg (cP 0 0 0 0 0 0 0), .int .i64 3]) (by simp [results, Try.results6, go_sem, cP, p0, p1, p2, p3, p4, p5, p6]) rfl ⟨Or.inr ⟨(fun hx => by rw [HF.out] at hx; exact absurd hx.2 (by simp)), 3, by decide, rfl⟩, ?_⟩
      exact below7 HB2.out (Nat.le_succ _) _ _ _ _ _ _ _
    · have J1 := Lib.hid k1
      clear k0 k1
      have hcz := chkF_zero HC.out
      have hnn : n2 = n := by have := fitC_len HF.out; omega
      subst hnn
      have W1 := Lib.hid (weigh_any A n2 cap B l A2 cap2 B2 ns ml mh t0 u0 t1 u1 t2 u2 w2 (h.below (HB2.out.mono hB)) (by omega) hn (h2.below (HB2.out.mono hB2)) (by omega) (okZ_of hcz.1 hcz.2.1 HF.out))
      clear hcz
      unfold vM at W1
      go_wp2_with fail
      refine W1.out.mono ?_
      rintro e w3 ⟨rfl, hb3⟩
      have k1 := J1.out.below hb3 (by omega)
      have HB3 := Lib.hid (HB2.out.trans (hb3.mono (by omega)))
      obtain ⟨⟨p0, p1, p2, p3, p4, p5, p6⟩, ⟨f0, f1, f2, f3, f4, f5, f6⟩⟩ := k1.pile
      clear k1 hb3 r0 r1 r2 r3 r4 r5 r6 r7 r8
      have HPF := Lib.hid (show pF (l.zip ns) = cP (sF LotP.mass (l.zip ns)) (sF LotP.l0 (l.zip ns)) (sF LotP.h0 (l.zip ns)) (sF LotP.l1 (l.zip ns)) (sF LotP.h1 (l.zip ns)) (sF LotP.l2 (l.zip ns)) (sF LotP.h2 (l.zip ns)) from rfl)
      unfold pF cP
      go_wp2
      refine bodyPost_ret (v := .tuple #[.agg (pF (l.zip ns)), .int .i64 0]) (by simp [results, Try.results6, go_sem, pF, cP, p0, p1, p2, p3, p4, p5, p6]) rfl ⟨Or.inl ⟨HC.out, HF.out, rfl⟩, ?_⟩
      exact below7 HB3.out (Nat.le_succ _) _ _ _ _ _ _ _
  · go_enter Try.func6, Try.ntmps6
    go_wp2_with fail
    refine (C1.out _ HB0.out).mono ?_
    rintro e w1 ⟨rfl, hb1⟩
    have hz1 := hb1.size
    simp at hz1
    have k1 := K1.out.below hb1 (by simp)
    unfold cP at k1
    have p0 := k1.cell (j := 0) rfl
    have p1 := k1.cell (j := 1) rfl
    have p2 := k1.cell (j := 2) rfl
    have p3 := k1.cell (j := 3) rfl
    have p4 := k1.cell (j := 4) rfl
    have p5 := k1.cell (j := 5) rfl
    have p6 := k1.cell (j := 6) rfl
    have fz := k1.frozen
    have f0 := fz 0
    have f1 := fz 1
    have f2 := fz 2
    have f3 := fz 3
    have f4 := fz 4
    have f5 := fz 5
    have f6 := fz 6
    have hbb : Below w.heap.size w w1 := HB0.out.trans (hb1.mono (by simp <;> omega))
    clear fz k1 K1 HB0 hb1 C1 C2 K0
    go_wp2
    refine bodyPost_ret (v := .tuple #[.agg (cP 0 0 0 0 0 0 0), .int .i64 c]) (by simp [results, Try.results6, go_sem, cP, p0, p1, p2, p3, p4, p5, p6]) rfl ⟨Or.inr ⟨fun hx => hc0 (HC.out.symm.trans hx.1), c, hc0, rfl⟩, ?_⟩
    exact ((((((hbb.setCell (Nat.le_succ _) _).setCell (Nat.le_succ _) _).setCell (Nat.le_succ _) _).setCell (Nat.le_succ _) _).setCell (Nat.le_succ _) _).setCell (Nat.le_succ _) _).setCell (Nat.le_succ _) _
end Go.Proofs.Ythpnikalelookaa
