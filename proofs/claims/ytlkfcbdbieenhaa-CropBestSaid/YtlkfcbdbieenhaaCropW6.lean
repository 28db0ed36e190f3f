/-
  Walks of chapter 7, sixth part: Min, behind, value.
-/
import Derived.Test.YtlkfcbdbieenhaaCropW5
import Derived.BigQuiet
import Derived.Deep.QuietTactic
import Derived.Deep.RegionHeld3
import Derived.IntWalk
namespace Go.Proofs.Ytlkfcbdbieenhaa
open Go.RowKit

/-- The least number of a list, or 1000. -/
def mnF (l : List Int) : Int := l.foldl min 1000
theorem foldl_min (l : List Int) (a b : Int) : l.foldl min (min a b) = min a (l.foldl min b) := by
  induction l generalizing b with
  | nil => rfl
  | cons x l ih => simp only [List.foldl_cons]; rw [Int.min_assoc, ih]
theorem mnF_cons (x : Int) (l : List Int) : mnF (x :: l) = min x (mnF l) := by
  unfold mnF
  rw [List.foldl_cons, Int.min_comm, foldl_min]
theorem mnF_snoc (l : List Int) (x : Int) : mnF (l ++ [x]) = min (mnF l) x := by simp [mnF]
theorem mnF_bd {l : List Int} (h : ∀ x ∈ l, -1 ≤ x ∧ x ≤ 1000) : -1 ≤ mnF l ∧ mnF l ≤ 1000 := by
  induction l with
  | nil => simp [mnF]
  | cons x l ih =>
    have h1 := ih (fun y hy => h y (List.mem_cons_of_mem _ hy))
    have h2 := h x List.mem_cons_self
    rw [mnF_cons]
    omega
theorem min_if (a b : Int) : (if b < a then b else a) = min a b := by
  by_cases h : b < a
  · rw [if_pos h]; omega
  · rw [if_neg h]; omega

theorem take_one {l : List Int} {x : Int} (h : l[0]? = some x) : l.take 1 = [x] := by
  cases l with
  | nil => cases h
  | cons y l => simp at h; subst h; rfl

set_option maxHeartbeats 400000 in
theorem min_any (A : Option Addr) (n cap B : Nat) (l : List Int) (w : World) (h : Sl eI 1 w B A n l) (h1 : 1 ≤ n) (hl : n ≤ 1000000) (hw : ∀ x ∈ l, -1 ≤ x ∧ x ≤ 1000) :
    Calls Try.prog 94 #[.slice A n cap] w fun e w' => e = .returned (.int .i64 (mnF l)) ∧ w = w' := by
  obtain ⟨x, hx⟩ := h.get (k := 0) (by omega)
  obtain ⟨b, off, rfl, hb, c1⟩ := h.at1 hx
  have hx1 := hw x (List.mem_of_getElem? hx)
  have HT := Lib.hid (show mnF (l.take 1) = x by rw [take_one hx]; simp [mnF]; omega)
  have HW := Lib.hid hw
  have hne : decide ((n : Int) < 1) = false := by simp; omega
  clear hx hw
  simp only [Nat.add_zero] at c1
  go_enter Try.func94, Try.ntmps94
  go_wp2
  go_loop [3, 4] (fun m i => ∃ k : Nat, 1 ≤ k ∧ k ≤ n ∧ i = .int .i64 k ∧ m = .int .i64 (mnF (l.take k))) (fun _ i => n - (intOf i).toNat)
  case atStart => exact ⟨1, Nat.le_refl _, h1, rfl, by rw [HT.out]⟩
  case round =>
    obtain ⟨k, hk1, hk, rfl, rfl⟩ := hrel
    by_cases hlt : k < n
    · obtain ⟨y, hy⟩ := h.get hlt
      obtain ⟨b', off', e, _, c2⟩ := h.at1 hy
      injection e with e
      injection e with e1 e2
      subst e1 e2
      have HY := Lib.hid hy
      have HM := Lib.hid (mnF_snoc (l.take k) y)
      clear hy
      generalize mnF (l.take k) = m at *
      go_wp2
      all_goals
        go_round
        case rel => exact ⟨k + 1, by omega, by omega, by go_num, by rw [take_snoc HY.out, HM.out]; first | (rw [Int.min_eq_left (by omega)]; done) | (rw [Int.min_eq_right (by omega)]; done) | (rw [min_if]; done)⟩
        case measure => simp [intOf]; omega
    · go_wp2
      go_ret
      have ht : l.take k = l := List.take_of_length_le (by have := h.len; omega)
      exact ⟨ret_int (by rw [ht]), rfl⟩

/-- A boule by value. -/
def vB (s1 s2 s3 : Int) (A : Option Addr) (n cap : Nat) : Value := .agg #[.int .i64 s1, .int .i64 s2, .int .i64 s3, .slice A n cap]

set_option maxHeartbeats 400000 in
theorem behind_any (s1 s2 s3 : Int) (A : Option Addr) (n cap : Nat) (f t : Int) (w : World) (hs : 0 ≤ s3 ∧ s3 ≤ 20) (ht : 0 ≤ t ∧ t ≤ 1000000) :
    Calls Try.prog 50 #[vB s1 s2 s3 A n cap, .agg #[.int .i64 f, .int .i64 t]] w fun e w' => e = .returned (.int .i64 (min (t + s3) n)) ∧ Below w.heap.size w w' := by
  unfold vB
  go_enter Try.func50, Try.ntmps50
  go_wp2
  all_goals
    go_ret
    exact ⟨ret_int (by first | (rw [Int.min_eq_left (by omega)]; done) | (rw [Int.min_eq_right (by omega)]; done) | (rw [min_if]; done)), ba (ba (Below.refl _ _))⟩

/-- What a block is worth; and whether it is allowed. -/
def valF (s1 s2 : Int) (ws : List Int) (f t : Int) : Int × Bool :=
  if 0 ≤ f ∧ t ≤ ws.length ∧ f ≤ t ∧ s1 ≤ t - f ∧ t - f ≤ s2 then (mnF ((ws.drop f.toNat).take (t - f).toNat) * (t - f), decide (0 ≤ mnF ((ws.drop f.toNat).take (t - f).toNat))) else (0, false)
theorem valF_no {s1 s2 : Int} {ws : List Int} {f t : Int} (h : ¬ (0 ≤ f ∧ t ≤ ws.length ∧ f ≤ t ∧ s1 ≤ t - f ∧ t - f ≤ s2)) : valF s1 s2 ws f t = (0, false) := if_neg h
theorem valF_yes {s1 s2 : Int} {ws : List Int} {f t : Int} (h : 0 ≤ f ∧ t ≤ ws.length ∧ f ≤ t ∧ s1 ≤ t - f ∧ t - f ≤ s2) : valF s1 s2 ws f t = (mnF ((ws.drop f.toNat).take (t - f).toNat) * (t - f), decide (0 ≤ mnF ((ws.drop f.toNat).take (t - f).toNat))) := if_pos h
theorem Sl.cut {w : World} {B b off n : Nat} {l : List Int} (h : Sl eI 1 w B (some ⟨b, off, none⟩) n l) (i j : Nat) (hij : i + j ≤ n) : Sl eI 1 w B (some ⟨b, off + i, none⟩) j ((l.drop i).take j) := by
  refine ⟨by simp [h.len]; omega, fun hne => ?_⟩
  obtain ⟨b', off', e, hb, hc⟩ := h.2 (fun h0 => hne (by rw [h0]; simp))
  injection e with e
  injection e with e1 e2
  subst e1 e2
  refine ⟨b, off + i, rfl, hb, fun k x hx m u hu => ?_⟩
  have hk : k < j := by
    have := (List.getElem?_eq_some_iff.1 hx).1
    simp at this
    omega
  have hx' : l[i + k]? = some x := by
    rw [List.getElem?_take, if_pos hk, List.getElem?_drop] at hx
    exact hx
  have := hc (i + k) x hx' m u hu
  rw [show off + i + k * 1 + m = off + (i + k) * 1 + m from by omega]
  exact this

set_option maxHeartbeats 1000000 in
theorem value_any (s1 s2 s3 : Int) (A : Option Addr) (n cap B : Nat) (ws : List Int) (f t : Int) (w : World) (h : Sl eI 1 w B A n ws) (hB : B ≤ w.heap.size) (hcap : n ≤ cap) (hs : 1 ≤ s1 ∧ s2 ≤ 600) (hn : n ≤ 200000) (hw : ∀ x ∈ ws, -1 ≤ x ∧ x ≤ 1000) :
    Calls Try.prog 80 #[vB s1 s2 s3 A n cap, .agg #[.int .i64 f, .int .i64 t]] w fun e w' => e = .returned (.tuple #[.int .i64 (valF s1 s2 ws f t).1, .bool (valF s1 s2 ws f t).2]) ∧ Below w.heap.size w w' := by
  have hlen := h.len
  unfold vB
  by_cases h1 : f < 0
  · rw [valF_no (by omega)]
    have d1 : decide (f < 0) = true := by simpa using h1
    go_enter Try.func80, Try.ntmps80
    go_wp2
    go_ret2
    exact ⟨rfl, ba (ba (Below.refl _ _))⟩
  have d1 : decide (f < 0) = false := by simpa using h1
  by_cases h2 : (n : Int) < t
  · rw [valF_no (by omega)]
    have d2 : decide ((n : Int) < t) = true := by simpa using h2
    go_enter Try.func80, Try.ntmps80
    go_wp2
    go_ret2
    exact ⟨rfl, ba (ba (Below.refl _ _))⟩
  have d2 : decide ((n : Int) < t) = false := by simpa using h2
  by_cases h3 : t < f
  · rw [valF_no (by omega)]
    have d3 : decide (t < f) = true := by simpa using h3
    go_enter Try.func80, Try.ntmps80
    go_wp2
    go_ret2
    exact ⟨rfl, ba (ba (Below.refl _ _))⟩
  have d3 : decide (t < f) = false := by simpa using h3
  by_cases h4 : s1 ≤ t - f ∧ t - f ≤ s2
  · have W1 := Lib.hid (inB_t h4)
    obtain ⟨i, rfl⟩ := Int.eq_ofNat_of_zero_le (by omega : 0 ≤ f)
    obtain ⟨j, rfl⟩ : ∃ j : Nat, t = (i : Int) + j := ⟨(t - i).toNat, by omega⟩
    have V := valF_yes (s1 := s1) (s2 := s2) (ws := ws) (f := (i : Int)) (t := (i : Int) + j) (by omega)
    rw [show ((i : Int) + j - i).toNat = j from by omega, show ((i : Int)).toNat = i from by omega, show ((i : Int) + j - i) = j from by omega] at V
    have HV := Lib.hid V
    clear V
    have hj : 1 ≤ j := by omega
    obtain ⟨x0, hx0⟩ := h.get (k := i) (by omega)
    obtain ⟨b, off, rfl, hb, -⟩ := h.at1 hx0
    have hcut := h.cut i j (by omega)
    have hmw : ∀ x ∈ (ws.drop i).take j, -1 ≤ x ∧ x ≤ 1000 := fun x hx => hw x (List.mem_of_mem_drop (List.mem_of_mem_take hx))
    have MN := Lib.hid (fun W (hb : Below w.heap.size w W) c => min_any (some ⟨b, off + i, none⟩) j c B _ W (hcut.below (hb.mono hB)) hj (by omega) hmw)
    have hbd := mnF_bd hmw
    generalize mnF ((ws.drop i).take j) = m at *
    have hmj : -600 ≤ m * (j : Int) ∧ m * (j : Int) ≤ 600000 := by
      constructor
      · have := Int.mul_le_mul_of_nonneg_right hbd.1 (Int.natCast_nonneg j); omega
      · have := Int.mul_le_mul_of_nonneg_right hbd.2 (Int.natCast_nonneg j); omega
    have HWr := Lib.hid (show wrap64 (m * ((i : Int) + j - i)) = m * j by rw [show ((i : Int) + j - i) = j from by omega]; exact IntWalk.wrap64_in _ ⟨by omega, by omega⟩)
    have i1 : (0 : Int) ≤ (i : Int) := by omega
    have i2 : (i : Int) ≤ (i : Int) + j := by omega
    have i3 : (i : Int) + j ≤ (cap : Int) := by omega
    clear hx0 hw hmw hcut
    go_enter Try.func80, Try.ntmps80
    go_wp2_with fail
    refine (within_any _ _ _ _).mono ?_
    rintro e w1 ⟨rfl, rfl⟩
    rw [W1.out]
    go_wp2_with fail
    refine (MN.out _ (ba (ba (Below.refl _ _))) _).mono ?_
    rintro e w1 ⟨rfl, rfl⟩
    go_wp2
    go_ret2
    refine ⟨?_, ba (ba (Below.refl _ _))⟩
    show Ending.returned (.tuple #[.int .i64 (wrap64 (m * ((i : Int) + j - i))), .bool (decide (0 ≤ m))]) = _
    rw [HV.out, HWr.out]
  · rw [valF_no (by omega)]
    have W1 := Lib.hid (inB_f h4)
    clear h4
    go_enter Try.func80, Try.ntmps80
    go_wp2_with fail
    refine (within_any _ _ _ _).mono ?_
    rintro e w1 ⟨rfl, rfl⟩
    rw [W1.out]
    go_wp2
    go_ret2
    exact ⟨rfl, ba (ba (Below.refl _ _))⟩
theorem valF_ok {s1 s2 : Int} {ws : List Int} {f t : Int} (h : (valF s1 s2 ws f t).2 = true) : 0 ≤ f ∧ t ≤ ws.length ∧ f ≤ t ∧ s1 ≤ t - f ∧ t - f ≤ s2 ∧ 0 ≤ mnF ((ws.drop f.toNat).take (t - f).toNat) := by
  by_cases hc : 0 ≤ f ∧ t ≤ ws.length ∧ f ≤ t ∧ s1 ≤ t - f ∧ t - f ≤ s2
  · rw [valF_yes hc] at h
    simp at h
    exact ⟨hc.1, hc.2.1, hc.2.2.1, hc.2.2.2.1, hc.2.2.2.2, h⟩
  · rw [valF_no hc] at h
    cases h
theorem valF_bd {s1 s2 : Int} {ws : List Int} {f t : Int} (hs : s2 ≤ 600) (hw : ∀ x ∈ ws, -1 ≤ x ∧ x ≤ 1000) : -600 ≤ (valF s1 s2 ws f t).1 ∧ (valF s1 s2 ws f t).1 ≤ 600000 := by
  by_cases hc : 0 ≤ f ∧ t ≤ ws.length ∧ f ≤ t ∧ s1 ≤ t - f ∧ t - f ≤ s2
  · rw [valF_yes hc]
    have hb := mnF_bd (l := (ws.drop f.toNat).take (t - f).toNat) (fun x hx => hw x (List.mem_of_mem_drop (List.mem_of_mem_take hx)))
    simp only
    generalize mnF ((ws.drop f.toNat).take (t - f).toNat) = m at *
    have h0 : 0 ≤ t - f := by omega
    have h1 := Int.mul_le_mul_of_nonneg_right hb.1 h0
    have h2 := Int.mul_le_mul_of_nonneg_right hb.2 h0
    constructor <;> omega
  · rw [valF_no hc]
    simp
/-- Whether the k-th block is allowed, and lies behind the one before it. -/
def okAt (s1 s2 s3 : Int) (ws : List Int) (bs : List Bl) (k : Nat) : Bool :=
  (valF s1 s2 ws (bs.getD k (0, 0)).1 (bs.getD k (0, 0)).2).2 && (decide (k = 0) || decide ((bs.getD (k - 1) (0, 0)).2 + s3 ≤ (bs.getD k (0, 0)).1))
def crB (s1 s2 s3 : Int) (ws : List Int) (bs : List Bl) : Bool := (List.range bs.length).all (okAt s1 s2 s3 ws bs)
/-- The sum of what blocks are worth. -/
def sumV (s1 s2 : Int) (ws : List Int) (bs : List Bl) : Int := (bs.map fun x => (valF s1 s2 ws x.1 x.2).1).sum
def totF (s1 s2 s3 : Int) (ws : List Int) (bs : List Bl) : Int × Bool := if crB s1 s2 s3 ws bs then (sumV s1 s2 ws bs, true) else (0, false)
theorem sumV_snoc (s1 s2 : Int) (ws : List Int) (bs : List Bl) (x : Bl) : sumV s1 s2 ws (bs ++ [x]) = sumV s1 s2 ws bs + (valF s1 s2 ws x.1 x.2).1 := by simp [sumV]
theorem sumV_bd {s1 s2 : Int} {ws : List Int} (hs : s2 ≤ 600) (hw : ∀ x ∈ ws, -1 ≤ x ∧ x ≤ 1000) (bs : List Bl) : -600 * (bs.length : Int) ≤ sumV s1 s2 ws bs ∧ sumV s1 s2 ws bs ≤ 600000 * (bs.length : Int) := by
  induction bs with
  | nil => simp [sumV]
  | cons x bs ih =>
    have := valF_bd (s1 := s1) (f := x.1) (t := x.2) hs hw
    simp only [sumV, List.map_cons, List.sum_cons, List.length_cons] at *
    omega
theorem totF_no {s1 s2 s3 : Int} {ws : List Int} {bs : List Bl} {k : Nat} (hk : k < bs.length) (h : okAt s1 s2 s3 ws bs k = false) : totF s1 s2 s3 ws bs = (0, false) := by
  unfold totF
  rw [if_neg]
  intro hc
  unfold crB at hc
  rw [List.all_eq_true] at hc
  rw [hc k (by simpa using hk)] at h
  cases h
theorem totF_yes {s1 s2 s3 : Int} {ws : List Int} {bs : List Bl} (h : ∀ k, k < bs.length → okAt s1 s2 s3 ws bs k = true) : totF s1 s2 s3 ws bs = (sumV s1 s2 ws bs, true) := by
  unfold totF
  rw [if_pos]
  unfold crB
  rw [List.all_eq_true]
  exact fun k hk => h k (by simpa using hk)
theorem getD_of {l : List Bl} {k : Nat} {x : Bl} (h : l[k]? = some x) : l.getD k (0, 0) = x := by simp [List.getD, h]
end Go.Proofs.Ytlkfcbdbieenhaa
