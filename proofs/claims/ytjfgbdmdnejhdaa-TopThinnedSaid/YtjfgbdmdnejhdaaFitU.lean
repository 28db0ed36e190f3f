/-
  Chapter 10 at the top: slice.Judge, by names.
-/
import Derived.Test.YtjfgbdmdnejhdaaFitT
set_option linter.unusedSimpArgs false
set_option linter.unusedVariables false
namespace Go.Proofs.Ytjfgbdmdnejhdaa
open Go.RowKit Go.Vm
set_option maxRecDepth 100000
abbrev mPred (c : Wb) (len : Int) : Nat := usF c len - 1
section
variable {c : Wb} {len : Int}
theorem predict_f (V : Vd c len) (h0 : ckE c len = 0) : ∃ a1 a2 a3 a4 a5 a6 a7, ∀ h : AH, h.sees 0 = true → Fc Try.prog 5 [wirV c, webV c, .int .i64 len] h (.tuple #[.agg #[.slice (some ⟨h.next, 0, none⟩) (usF c len - 1) openB, .int .i64 a1, .int .i64 a2, .int .i64 a3, .int .i64 a4, .int .i64 a5, .int .i64 a6, .int .u8 a7], .int .i64 0]) (h.news [.cells ⟨pairs (tkS c len) (tnS c len) (usF c len - 1), 2, true⟩]) := by
  obtain ⟨a1, a2, a3, a4, a5, a6, a7, F⟩ := predict_c V h0
  refine ⟨a1, a2, a3, a4, a5, a6, a7, fun h hs => ?_⟩
  have := Fc.lift (cs := []) (os := [(usF c len - 1, pairs (tkS c len) (tnS c len) (usF c len - 1), 2)]) (mk := fun ss => [wirV c, webV c, .int .i64 len] ++ ss ++ []) (mkv := fun ss => .tuple ⟨[.agg ⟨[] ++ ss ++ [.int .i64 a1, .int .i64 a2, .int .i64 a3, .int .i64 a4, .int .i64 a5, .int .i64 a6, .int .u8 a7]⟩, .int .i64 0]⟩) (ss := []) (fun caps hc => by
    obtain rfl : caps = [] := List.eq_nil_of_length_eq_zero hc
    exact F) (MkL.mid rfl rfl) (MkV.tup (MkL.agg1 (MkL.mid rfl rfl) rfl)) (fun p hp => by cases hp) (fun p hp => by
      simp only [List.mem_cons, List.not_mem_nil, or_false] at hp
      rcases hp with rfl
      exact pairs_no _ _ _) hs trivial
  exact this
theorem predictE_f {e : Int} (he : ckE c len = e) (h0 : e ≠ 0) {h : AH} (hs : h.sees 0 = true) : Fc Try.prog 5 [wirV c, webV c, .int .i64 len] h (.tuple #[.agg #[.slice none 0 0, .int .i64 0, .int .i64 0, .int .i64 0, .int .i64 0, .int .i64 0, .int .i64 0, .int .u8 0], .int .i64 e]) h := Fc.lift0 (predictE_c he h0) rfl rfl hs
end
def gr1 (tl th a b : Int) : Int := if a ≥ tl ∧ b ≤ th then 1 else 2
def grI (tl th a b : Int) : Int := if a > th ∨ b < tl then 3 else gr1 tl th a b
def grL (tl th : Int) (tS nS : List Int) : Nat → List Int
  | 0 => []
  | i + 1 => grL tl th tS nS i ++ [grI tl th (nth tS i) (nth nS i)]
theorem grL_len (tl th : Int) (tS nS : List Int) : ∀ i, (grL tl th tS nS i).length = i
  | 0 => rfl
  | i + 1 => by rw [grL, List.length_append, grL_len tl th tS nS i]; rfl
theorem grL_nth (tl th : Int) (tS nS : List Int) : ∀ m i, i < m → nth (grL tl th tS nS m) i = grI tl th (nth tS i) (nth nS i)
  | 0, i, h => by omega
  | m + 1, i, h => by
    unfold nth
    rw [grL, List.getD_eq_getElem?_getD]
    by_cases hi : i < m
    · rw [List.getElem?_append_left (by rw [grL_len]; exact hi)]
      have := grL_nth tl th tS nS m i hi
      unfold nth at this
      rw [List.getD_eq_getElem?_getD] at this
      exact this
    · obtain rfl : i = m := by omega
      rw [List.getElem?_append_right (by rw [grL_len]; exact Nat.le_refl _), grL_len, Nat.sub_self]
      rfl
theorem pairs_at (a b : List Int) : ∀ m i, i < m → takeC (pairs a b m) (i * 2) 2 = some [.int .i64 (nth a i), .int .i64 (nth b i)]
  | 0, i, h => by omega
  | m + 1, i, h => by
    have hl := pairs_len a b m
    unfold takeC
    show (if _ then _ else _) = _
    rw [if_pos (by rw [pairs_len]; omega)]
    by_cases hi : i < m
    · have ih := pairs_at a b m i hi
      unfold takeC at ih
      rw [if_pos (by omega)] at ih
      show some (((pairs a b m ++ _).drop (i * 2)).take 2) = _
      rw [List.drop_append_of_le_length (by omega), List.take_append_of_le_length (by rw [List.length_drop]; omega)]
      exact ih
    · obtain rfl : i = m := by omega
      show some (((pairs a b i ++ _).drop (i * 2)).take 2) = _
      rw [← hl, List.drop_left]
      rfl
/-- Where the grades are gathered. -/
structure JI (m : Nat) (tl th : Int) (tS nS : List Int) (s : PS) : Prop where
  le : s.i ≤ m
  tg : s.M[3]? = some (some (.cells ⟨[.int .i64 tl, .int .i64 th], 1, false⟩))
  pr : s.M[4]? = some (some (.cells ⟨pairs tS nS m, 2, true⟩))
  row : (s.i = 0 ∧ s.v = .slice none 0 0) ∨ ∃ k, 5 ≤ k ∧ s.v = .slice (some ⟨k, 0, none⟩) s.i openB ∧ s.M[k]? = some (some (.cells ⟨rows eY (grL tl th tS nS s.i), 1, true⟩))
section
variable {m : Nat} {tl th : Int} {tS nS : List Int}
theorem JI.grow {s : PS} (I : JI m tl th tS nS s) (x : Option AObj) : JI m tl th tS nS ⟨s.i, s.v, s.M ++ [x]⟩ := by
  obtain ⟨le, tg, pr, row⟩ := I
  refine ⟨le, ?_, ?_, ?_⟩
  · show (s.M ++ [x])[3]? = _
    rw [List.getElem?_append_left (get_lt tg)]; exact tg
  · show (s.M ++ [x])[4]? = _
    rw [List.getElem?_append_left (get_lt pr)]; exact pr
  · rcases row with h | ⟨k, h1, h2, h3⟩
    · exact .inl h
    · exact .inr ⟨k, h1, h2, by show (s.M ++ [x])[k]? = _; rw [List.getElem?_append_left (get_lt h3)]; exact h3⟩
theorem ji_app {s : PS} (I : JI m tl th tS nS s) (hi : s.i < m) (hm : m ≤ 2000) {g : Int} (hg : g = grI tl th (nth tS s.i) (nth nS s.i)) :
    ∃ k' M', JI m tl th tS nS ⟨s.i + 1, .slice (some ⟨k', 0, none⟩) (s.i + 1) openB, M'⟩ ∧
      ∀ K : Value → AH → Prop, K (.slice (some ⟨k', 0, none⟩) (s.i + 1) openB) (Hp 1 M') → appK (Hp 1 (s.M ++ [some (AObj.cells ⟨[.int .u8 g], 1, false⟩)])) 1 1 s.v (.slice (some ⟨s.M.length, 0, none⟩) 1 1) K := by
  obtain ⟨i, v0, M⟩ := s
  obtain ⟨le, tg, pr, row⟩ := I
  simp only at le tg pr row hi hg ⊢
  have hl := get_lt pr
  obtain ⟨M2, hM2⟩ : ∃ M2, M ++ [some (AObj.cells ⟨[.int .u8 g], 1, false⟩)] = M2 := ⟨_, rfl⟩
  have l2 : M2.length = M.length + 1 := by rw [← hM2, List.length_append]; rfl
  have o2 : ∀ j, j < M.length → M2[j]? = M[j]? := fun j hj => by rw [← hM2, List.getElem?_append_left hj]
  have hk : cellsAt (Hp 1 M2) M.length 0 1 = some [.int .u8 g] := cells_all (by rw [← hM2, List.getElem?_append_right (Nat.le_refl _), Nat.sub_self]; rfl) rfl
  have hr : rows eY (grL tl th tS nS (i + 1)) = rows eY (grL tl th tS nS i) ++ [.int .u8 g] := by
    rw [grL, rows_append, ← hg]; rfl
  rw [hM2]
  have fin : ∀ M' : List (Option AObj), M'.length = M2.length + 1 → (∀ j, j < 5 → M'[j]? = M2[j]?) → M'[M2.length]? = some (some (.cells ⟨rows eY (grL tl th tS nS (i + 1)), 1, true⟩)) → JI m tl th tS nS ⟨i + 1, .slice (some ⟨M2.length, 0, none⟩) (i + 1) openB, M'⟩ := by
    intro M' h1 h2 h3
    exact ⟨hi, (h2 3 (by decide)).trans ((o2 3 (by omega)).trans tg), (h2 4 (by decide)).trans ((o2 4 (by omega)).trans pr), .inr ⟨M2.length, by show 5 ≤ M2.length; omega, rfl, h3⟩⟩
  rcases row with ⟨rfl, rfl⟩ | ⟨k, hk12, rfl, hkr⟩
  · refine ⟨M2.length, M2 ++ [some (AObj.cells ⟨rows eY (grL tl th tS nS 1), 1, true⟩)], fin _ (by rw [List.length_append]; rfl) (fun j hj => List.getElem?_append_left (by omega)) (by rw [List.getElem?_append_right (Nat.le_refl _), Nat.sub_self]; rfl), fun K q => ?_⟩
    rw [appK_n (by decide), show cellsAt (Hq 1 [] M2) M.length 0 (1 * 1) = some [.int .u8 g] from hk]
    rw [hr] at q
    show chk _ _
    unfold chk
    exact ⟨by decide, q⟩
  · have hkl := get_lt hkr
    have g3 : M2[k]? = some (some (.cells ⟨rows eY (grL tl th tS nS i), 1, true⟩)) := by rw [o2 k hkl]; exact hkr
    have ln : (rows eY (grL tl th tS nS i)).length = i * 1 := by rw [rows_len (f := eY), grL_len]
    refine ⟨M2.length, (M2 ++ [some (AObj.cells ⟨rows eY (grL tl th tS nS (i + 1)), 1, true⟩)]).set k none, fin _ (by rw [List.length_set, List.length_append]; rfl) (fun j hj => by rw [List.getElem?_set_ne (by omega), List.getElem?_append_left (by omega)]) (by rw [List.getElem?_set_ne (by omega), List.getElem?_append_right (Nat.le_refl _), Nat.sub_self]; rfl), fun K q => ?_⟩
    rw [appK_o rfl (by rw [g3]; rfl) ln (by decide), show cellsAt (Hq 1 [] M2) M.length 0 (1 * 1) = some [.int .u8 g] from hk]
    rw [hr] at q
    show chk _ _
    unfold chk
    exact ⟨⟨by omega, by omega⟩, rfl, q⟩
end
end Go.Proofs.Ytjfgbdmdnejhdaa
