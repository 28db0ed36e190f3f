/-
  Chapter 7, the best cropping: compare; plain words for the blocks from a place on, and for the table of the best rests.
-/
import Derived.Test.YtlkfcbdbieenhaaCropWF
import Derived.Deep.DeepCutAuto
namespace Go.Proofs.Ytlkfcbdbieenhaa
open Go.RowKit

def cmpF (a b : Int) : Int := if a < b then -1 else if b < a then 1 else 0

theorem isNaN_any (a : Int) (w : World) : Calls Try.prog 99 #[.int .i64 a] w fun e w' => e = .returned (.bool false) ∧ w = w' := by
  go_enter Try.func99, Try.ntmps99
  go_wp2
  go_ret
  exact ⟨ret_bool (by simp), rfl⟩

set_option maxHeartbeats 1000000 in
theorem cmp_any (a b : Int) (w : World) : Calls Try.prog 93 #[.int .i64 a, .int .i64 b] w fun e w' => e = .returned (.int .i64 (cmpF a b)) ∧ w = w' := by
  by_cases h1 : a < b
  · have HF := Lib.hid (show cmpF a b = -1 from if_pos h1)
    go_enter Try.func93, Try.ntmps93
    go_wp2_with (go_at_call 99; refine (isNaN_any _ _).mono ?_; rintro e w1 ⟨rfl, rfl⟩)
    go_ret
    exact ⟨ret_int (by rw [HF.out]), rfl⟩
  · have d1 : decide (a < b) = false := by simpa using h1
    by_cases h2 : b < a
    · have HF := Lib.hid (show cmpF a b = 1 by unfold cmpF; rw [if_neg h1, if_pos h2])
      go_enter Try.func93, Try.ntmps93
      go_wp2_with (go_at_call 99; refine (isNaN_any _ _).mono ?_; rintro e w1 ⟨rfl, rfl⟩)
      go_ret
      exact ⟨ret_int (by rw [HF.out]), rfl⟩
    · have d2 : decide (b < a) = false := by simpa using h2
      have HF := Lib.hid (show cmpF a b = 0 by unfold cmpF; rw [if_neg h1, if_neg h2])
      go_enter Try.func93, Try.ntmps93
      go_wp2_with (go_at_call 99; refine (isNaN_any _ _).mono ?_; rintro e w1 ⟨rfl, rfl⟩)
      go_ret
      exact ⟨ret_int (by rw [HF.out]), rfl⟩

set_option maxHeartbeats 1000000 in
theorem cmpOr_any (g : Nat) (x y : Int) (w : World) (hg : Bk w g 3 #[.int .i64 x, .int .i64 y]) :
    Calls Try.prog 92 #[.slice (some ⟨g, 0, none⟩) 2 2] w fun e w' => e = .returned (.int .i64 (if x = 0 then y else x)) ∧ w = w' := by
  obtain ⟨⟨c0, c1⟩, -⟩ := hg.c2
  by_cases hx : x = 0
  · subst hx
    by_cases hy : y = 0
    · subst hy
      go_enter Try.func92, Try.ntmps92
      go_wp2
      go_loop [8] (fun i => ∃ k : Nat, k ≤ 2 ∧ i = .int .i64 k) (fun i => 2 - (intOf i).toNat)
      case atStart => exact ⟨0, by omega, rfl⟩
      case round =>
        obtain ⟨k, hk, rfl⟩ := hrel
        by_cases h2 : k < 2
        · have hc : w.cell? ⟨g, k, none⟩ = some (.int .i64 0) := by
            rcases (by omega : k = 0 ∨ k = 1) with rfl | rfl
            · exact c0
            · exact c1
          go_wp2
          go_round
          case rel => exact ⟨k + 1, by omega, by go_num⟩
          case measure => simp [intOf]; omega
        · go_wp2
          go_ret
          exact ⟨ret_int (by simp), rfl⟩
    · have d1 : (y != 0) = true := by simpa using hy
      have d2 : decide (y = 0) = false := by simpa using hy
      go_enter Try.func92, Try.ntmps92
      go_wp2
      go_loop [8] (fun i => ∃ k : Nat, k ≤ 1 ∧ i = .int .i64 k) (fun i => 2 - (intOf i).toNat)
      case atStart => exact ⟨0, by omega, rfl⟩
      case round =>
        obtain ⟨k, hk, rfl⟩ := hrel
        rcases (by omega : k = 0 ∨ k = 1) with rfl | rfl
        · go_wp2
          go_round
          case rel => exact ⟨1, by omega, by go_num⟩
          case measure => simp [intOf]
        · go_wp2
          go_ret
          exact ⟨ret_int (by simp), rfl⟩
  · have d1 : (x != 0) = true := by simpa using hx
    have d2 : decide (x = 0) = false := by simpa using hx
    go_enter Try.func92, Try.ntmps92
    go_wp2
    go_loop [8] (fun i => i = .int .i64 0) (fun i => 2 - (intOf i).toNat)
    case atStart => rfl
    case round =>
      obtain rfl := hrel
      go_wp2
      go_ret
      exact ⟨ret_int rfl, rfl⟩

/-- A cropping's rest by value: its total, how many blocks, the first block. -/
abbrev Rs := Int × Int × Int × Int
def eR (x : Rs) : List Value := [.int .i64 x.1, .int .i64 x.2.1, .int .i64 x.2.2.1, .int .i64 x.2.2.2]
def vR (x : Rs) : Value := .agg #[.int .i64 x.1, .int .i64 x.2.1, .int .i64 x.2.2.1, .int .i64 x.2.2.2]
def rcF (x y : Rs) : Int := if cmpF x.1 y.1 = 0 then cmpF y.2.1 x.2.1 else cmpF x.1 y.1

set_option maxHeartbeats 2000000 in
theorem compare_any (a1 a2 a3 a4 b1 b2 b3 b4 : Int) (w : World) :
    Calls Try.prog 78 #[.agg #[.int .i64 a1, .int .i64 a2, .int .i64 a3, .int .i64 a4], .agg #[.int .i64 b1, .int .i64 b2, .int .i64 b3, .int .i64 b4]] w fun e w' => e = .returned (.int .i64 (rcF (a1, a2, a3, a4) (b1, b2, b3, b4))) ∧ Below w.heap.size w w' := by
  have b0 : Below w.heap.size w ((w.alloc (.cells #[.int .i64 a1, .int .i64 a2, .int .i64 a3, .int .i64 a4] 113)).alloc (.cells #[.int .i64 b1, .int .i64 b2, .int .i64 b3, .int .i64 b4] 113)) := ba (ba (Below.refl _ _))
  have k0 := (Bk.newAt w #[.int .i64 a1, .int .i64 a2, .int .i64 a3, .int .i64 a4] 113 w.heap.size rfl).alloc (.cells #[.int .i64 b1, .int .i64 b2, .int .i64 b3, .int .i64 b4] 113)
  have k1 := Bk.newAt (w.alloc (.cells #[.int .i64 a1, .int .i64 a2, .int .i64 a3, .int .i64 a4] 113)) #[.int .i64 b1, .int .i64 b2, .int .i64 b3, .int .i64 b4] 113 (w.heap.size + 1) (by simp)
  have HF := Lib.hid (show rcF (a1, a2, a3, a4) (b1, b2, b3, b4) = if cmpF a1 b1 = 0 then cmpF b2 a2 else cmpF a1 b1 from rfl)
  have C1 := Lib.hid (fun W => cmp_any a1 b1 W)
  have C2 := Lib.hid (fun W => cmp_any b2 a2 W)
  generalize cmpF a1 b1 = x at *
  generalize cmpF b2 a2 = y at *
  have OR := Lib.hid (fun g W (hk : Bk W g 3 #[.int .i64 x, .int .i64 y]) => cmpOr_any g x y W hk)
  generalize (if x = 0 then y else x) = z at HF OR
  go_enter Try.func78, Try.ntmps78
  go_wp2_with fail
  generalize hwi : (w.alloc (.cells #[.int .i64 a1, .int .i64 a2, .int .i64 a3, .int .i64 a4] 113)).alloc (.cells #[.int .i64 b1, .int .i64 b2, .int .i64 b3, .int .i64 b4] 113) = wi at *
  obtain ⟨⟨p0, p1, p2, p3⟩, -⟩ := k0.c4
  obtain ⟨⟨q0, q1, q2, q3⟩, -⟩ := k1.c4
  have l0 := k0.lt
  have l1 := k1.lt
  have SK := Lib.hid (fun W (hW : Below wi.heap.size wi W) => show W.cell? ⟨w.heap.size, 0, none⟩ = some (.int .i64 a1) ∧ W.cell? ⟨w.heap.size, 1, none⟩ = some (.int .i64 a2) ∧ W.cell? ⟨w.heap.size + 1, 0, none⟩ = some (.int .i64 b1) ∧ W.cell? ⟨w.heap.size + 1, 1, none⟩ = some (.int .i64 b2) from
    ⟨(hW.cell (p := ⟨w.heap.size, 0, none⟩) l0).trans p0, (hW.cell (p := ⟨w.heap.size, 1, none⟩) l0).trans p1, (hW.cell (p := ⟨w.heap.size + 1, 0, none⟩) l1).trans q0, (hW.cell (p := ⟨w.heap.size + 1, 1, none⟩) l1).trans q1⟩)
  have lbi : Below wi.heap.size wi wi := Below.refl _ _
  have B0 := Lib.hid b0
  clear hwi k0 k1 p0 p1 p2 p3 q0 q1 q2 q3 b0
  go_region_held3 (fun W => W.cell? ⟨w.heap.size, 0, none⟩ = some (.int .i64 a1) ∧ W.cell? ⟨w.heap.size, 1, none⟩ = some (.int .i64 a2) ∧ W.cell? ⟨w.heap.size + 1, 0, none⟩ = some (.int .i64 b1) ∧ W.cell? ⟨w.heap.size + 1, 1, none⟩ = some (.int .i64 b2)) ((refine SK.out _ ?_; repeat (first | (with_reducible exact lbi) | (with_reducible apply bdr) | (with_reducible apply ba)))) (first
    | (go_at_call 93; (with_reducible refine (C1.out _).mono ?_); rintro e w1 ⟨rfl, rfl⟩; dsimp only)
    | (go_at_call 93; (with_reducible refine (C2.out _).mono ?_); rintro e w1 ⟨rfl, rfl⟩; dsimp only)
    | (go_at_call 92; (with_reducible refine (OR.out wi.heap.size (wi.alloc (.cells #[.int .i64 x, .int .i64 y] 3)).drew (Bk.newAt wi #[.int .i64 x, .int .i64 y] 3 wi.heap.size rfl).drew).mono ?_); rintro e w1 ⟨rfl, rfl⟩; dsimp only))
  all_goals
    go_wp2
    go_ret
    exact ⟨ret_int HF.out.symm, B0.out.trans ((bdr (ba lbi)).mono B0.out.size)⟩

/-- The least worth of so many mm from a place on, or 1000. -/
def lsF (ws : List Int) (f j : Nat) : Int := mnF ((ws.drop f).take j)
theorem lsF_zero (ws : List Int) (f : Nat) : lsF ws f 0 = 1000 := by simp [lsF, mnF]
theorem lsF_succ {ws : List Int} {f j : Nat} {x : Int} (h : ws[f + j]? = some x) : lsF ws f (j + 1) = min (lsF ws f j) x := by
  unfold lsF
  rw [take_snoc (by rw [List.getElem?_drop]; exact h), mnF_snoc]
theorem lsF_bd {ws : List Int} (h : ∀ x ∈ ws, -1 ≤ x ∧ x ≤ 1000) (f j : Nat) : -1 ≤ lsF ws f j ∧ lsF ws f j ≤ 1000 :=
  mnF_bd fun x hx => h x (List.mem_of_mem_drop (List.mem_of_mem_take hx))
abbrev Yd := Int × Int × Int
/-- What has come when j rounds are over. -/
def comeF (ws : List Int) (s1 : Int) (f : Nat) : Nat → List Yd
  | 0 => []
  | j + 1 => comeF ws s1 f j ++ (if s1 ≤ (j : Int) + 1 then [((f : Int), (f : Int) + 1 + j, ((j : Int) + 1) * lsF ws f (j + 1))] else [])
theorem comeF_succ (ws : List Int) (s1 : Int) (f j : Nat) : comeF ws s1 f (j + 1) = comeF ws s1 f j ++ (if s1 ≤ (j : Int) + 1 then [((f : Int), (f : Int) + 1 + j, ((j : Int) + 1) * lsF ws f (j + 1))] else []) := rfl
theorem comeF_len (ws : List Int) (s1 : Int) (f j : Nat) : (comeF ws s1 f j).length ≤ j := by
  induction j with
  | zero => simp [comeF]
  | succ j ih => unfold comeF; split <;> simp <;> omega
/-- How many rounds there are: up to the first mm that can not be used. -/
def roundsF (ws : List Int) (f : Nat) : Nat → Nat
  | 0 => 0
  | k + 1 => if roundsF ws f k = k ∧ 0 ≤ lsF ws f (k + 1) then k + 1 else roundsF ws f k
theorem roundsF_le (ws : List Int) (f k : Nat) : roundsF ws f k ≤ k := by
  induction k with
  | zero => simp [roundsF]
  | succ k ih => unfold roundsF; split <;> omega
theorem roundsF_all {ws : List Int} {f k : Nat} (h : ∀ i, i < k → 0 ≤ lsF ws f (i + 1)) : roundsF ws f k = k := by
  induction k with
  | zero => rfl
  | succ k ih => unfold roundsF; rw [if_pos ⟨ih (fun i hi => h i (by omega)), h k (by omega)⟩]
theorem roundsF_stop {ws : List Int} {f j : Nat} (h : ∀ i, i < j → 0 ≤ lsF ws f (i + 1)) (hs : lsF ws f (j + 1) < 0) : ∀ k, j ≤ k → roundsF ws f k = j := by
  intro k hk
  induction k with
  | zero => obtain rfl : j = 0 := by omega
            rfl
  | succ k ih =>
    by_cases hjk : j = k + 1
    · subst hjk; exact roundsF_all h
    · have h1 := ih (by omega)
      unfold roundsF
      rw [if_neg, h1]
      rintro ⟨h2, h3⟩
      have : j = k := by omega
      subst this
      omega
/-- How far the blocks of a place may go. -/
def farF (n : Nat) (s2 : Int) (f : Nat) : Nat := (min s2 ((n : Int) - f)).toNat
/-- The blocks from a place on, with their values. -/
def yF (ws : List Int) (s1 s2 : Int) (f : Nat) : List Yd := comeF ws s1 f (roundsF ws f (farF ws.length s2 f))
/-- What is known of a block that comes. -/
def okY (f n : Nat) (x : Yd) : Prop := x.1 = f ∧ (f : Int) < x.2.1 ∧ x.2.1 ≤ n ∧ 0 ≤ x.2.2 ∧ x.2.2 ≤ 1000 * (x.2.1 - f)
abbrev Yf (f n : Nat) := { x : Yd // okY f n x }

/-- One block more. -/
def stepR (m : Nat → Rs) (s3 : Int) (n : Nat) (b : Rs × Bool) (x : Yd) : Rs × Bool :=
  if 0 < rcF (x.2.2 + (m (min (x.2.1 + s3) n).toNat).1, 1 + (m (min (x.2.1 + s3) n).toNat).2.1, x.1, x.2.1) b.1 ∨ rcF (x.2.2 + (m (min (x.2.1 + s3) n).toNat).1, 1 + (m (min (x.2.1 + s3) n).toNat).2.1, x.1, x.2.1) b.1 = 0 ∧ b.2 = false
  then ((x.2.2 + (m (min (x.2.1 + s3) n).toNat).1, 1 + (m (min (x.2.1 + s3) n).toNat).2.1, x.1, x.2.1), true) else b
def bestF (m : Nat → Rs) (s3 : Int) (n f : Nat) (l : List Yd) : Rs × Bool := l.foldl (stepR m s3 n) (m (f + 1), false)
theorem bestF_snoc (m : Nat → Rs) (s3 : Int) (n f : Nat) (l : List Yd) (x : Yd) : bestF m s3 n f (l ++ [x]) = stepR m s3 n (bestF m s3 n f l) x := by simp [bestF]
def upR (m : Nat → Rs) (i : Nat) (r : Rs) : Nat → Rs := fun j => if j = i then r else m j
/-- The table after so many places, from the end on. -/
def tblF (ws : List Int) (s1 s2 s3 : Int) : Nat → Nat → Rs
  | 0 => fun _ => (0, 0, 0, 0)
  | k + 1 => upR (tblF ws s1 s2 s3 k) (ws.length - (k + 1)) (bestF (tblF ws s1 s2 s3 k) s3 ws.length (ws.length - (k + 1)) (yF ws s1 s2 (ws.length - (k + 1)))).1
/-- What is known of an entry. -/
def okR (n i : Nat) (r : Rs) : Prop := 0 ≤ r.1 ∧ r.1 ≤ 1000 * ((n : Int) - i) ∧ 0 ≤ r.2.1 ∧ r.2.1 ≤ (n : Int) - i ∧ (0 < r.2.1 → (i : Int) ≤ r.2.2.1 ∧ r.2.2.1 < r.2.2.2 ∧ r.2.2.2 ≤ n)
theorem stepR_ok {m : Nat → Rs} {s3 : Int} {n f : Nat} {b : Rs × Bool} {x : Yd} (hs3 : 0 ≤ s3) (hm : ∀ i, i ≤ n → okR n i (m i)) (hb : okR n f b.1) (hx : okY f n x) : okR n f (stepR m s3 n b x).1 := by
  obtain ⟨h1, h2, h3, h4, h5⟩ := hx
  have hk : ((min (x.2.1 + s3) n).toNat : Int) = min (x.2.1 + s3) n := by omega
  have hn := hm (min (x.2.1 + s3) n).toNat (by omega)
  unfold stepR
  split
  · obtain ⟨g1, g2, g3, g4, _⟩ := hn
    rw [hk] at g2 g4
    generalize m (min (x.2.1 + s3) n).toNat = r at *
    refine ⟨?_, ?_, ?_, ?_, ?_⟩ <;> simp only <;> omega
  · exact hb
theorem okR_next {n f : Nat} {r : Rs} (h : okR n (f + 1) r) : okR n f r := by
  obtain ⟨g1, g2, g3, g4, g5⟩ := h
  refine ⟨g1, ?_, g3, ?_, fun hp => ?_⟩
  · omega
  · omega
  · have := g5 hp
    omega
theorem bestF_ok {m : Nat → Rs} {s3 : Int} {n f : Nat} (hs3 : 0 ≤ s3) (hf : f < n) (hm : ∀ i, i ≤ n → okR n i (m i)) (l : List Yd) (hl : ∀ x ∈ l, okY f n x) : okR n f (bestF m s3 n f l).1 := by
  unfold bestF
  have : ∀ (l : List Yd) (b : Rs × Bool), (∀ x ∈ l, okY f n x) → okR n f b.1 → okR n f (l.foldl (stepR m s3 n) b).1 := fun l => by
    induction l with
    | nil => intro b _ hb; exact hb
    | cons x l ih =>
      intro b hl hb
      rw [List.foldl_cons]
      exact ih _ (fun y hy => hl y (List.mem_cons_of_mem _ hy)) (stepR_ok hs3 hm hb (hl x List.mem_cons_self))
  exact this l _ hl (okR_next (hm (f + 1) (by omega)))
theorem comeF_ok {ws : List Int} (hw : ∀ x ∈ ws, -1 ≤ x ∧ x ≤ 1000) (s1 : Int) (f : Nat) : ∀ j, f + j ≤ ws.length → (∀ i, i < j → 0 ≤ lsF ws f (i + 1)) → ∀ x ∈ comeF ws s1 f j, okY f ws.length x
  | 0, _, _, x, hx => by simp [comeF] at hx
  | j + 1, hj, hl, x, hx => by
    unfold comeF at hx
    rcases List.mem_append.1 hx with hx | hx
    · exact comeF_ok hw s1 f j (by omega) (fun i hi => hl i (by omega)) x hx
    · split at hx
      · simp at hx
        subst hx
        have h1 := lsF_bd hw f (j + 1)
        have h2 := hl j (by omega)
        have h3 : 0 ≤ ((j : Int) + 1) * lsF ws f (j + 1) := Int.mul_nonneg (by omega) h2
        have h4 : ((j : Int) + 1) * lsF ws f (j + 1) ≤ ((j : Int) + 1) * 1000 := Int.mul_le_mul_of_nonneg_left h1.2 (by omega)
        refine ⟨rfl, ?_, ?_, h3, ?_⟩ <;> simp only <;> omega
      · simp at hx
theorem roundsF_pos {ws : List Int} {f : Nat} : ∀ k i, i < roundsF ws f k → 0 ≤ lsF ws f (i + 1)
  | 0, i, h => by simp [roundsF] at h
  | k + 1, i, h => by
    unfold roundsF at h
    split at h
    · rename_i hc
      by_cases hik : i = k
      · subst hik; exact hc.2
      · exact roundsF_pos k i (by omega)
    · exact roundsF_pos k i h
theorem yF_ok {ws : List Int} (hw : ∀ x ∈ ws, -1 ≤ x ∧ x ≤ 1000) (s1 s2 : Int) (f : Nat) (hf : f ≤ ws.length) : ∀ x ∈ yF ws s1 s2 f, okY f ws.length x := by
  have h1 := roundsF_le ws f (farF ws.length s2 f)
  exact comeF_ok hw s1 f _ (by unfold farF at *; omega) (roundsF_pos _)
theorem tblF_ok {ws : List Int} (hw : ∀ x ∈ ws, -1 ≤ x ∧ x ≤ 1000) {s1 s2 s3 : Int} (hs3 : 0 ≤ s3) : ∀ k, k ≤ ws.length → ∀ i, i ≤ ws.length → okR ws.length i (tblF ws s1 s2 s3 k i)
  | 0, _, i, hi => by refine ⟨?_, ?_, ?_, ?_, ?_⟩ <;> simp [tblF] <;> omega
  | k + 1, hk, i, hi => by
    have ih := tblF_ok (s1 := s1) (s2 := s2) hw hs3 k (by omega)
    unfold tblF upR
    split
    · rename_i he
      subst he
      exact bestF_ok hs3 (by omega) ih _ (yF_ok hw s1 s2 _ (by omega))
    · exact ih i hi
theorem encR : Enc eR 4 := fun x => ⟨rfl, fun u hu => by simp [eR] at hu; rcases hu with rfl | rfl | rfl | rfl <;> rfl⟩
/-- A row of rests. -/
def rowA (m : Nat → Rs) (n : Nat) : Array Value := ((List.range n).flatMap fun i => eR (m i)).toArray
theorem rowA_at (m : Nat → Rs) (n k : Nat) (h : k < n) (j : Nat) (u : Value) (hu : (eR (m k))[j]? = some u) : (rowA m n)[k * 4 + j]? = some u := by
  have hr : (List.range n)[k]? = some k := List.getElem?_range h
  have := flatMap_at (enc := fun i => eR (m i)) (c := 4) (fun i => encR (m i)) (List.range n) k k hr j u hu
  simpa [rowA] using this
end Go.Proofs.Ytlkfcbdbieenhaa
