/-
  Chapter 11 at the top: what Aged says of a plan's wear; the law TopWorn.
-/
import Derived.Test.YthoigkgjidcklaaWoJ
set_option linter.unusedSimpArgs false
set_option linter.unusedVariables false
namespace Go.Proofs.Ythoigkgjidcklaa
open Go.RowKit Go.Vm
set_option maxRecDepth 100000
theorem ov_true {p : Nat → Bool} : ∀ {n k : Nat}, ovI p n = (k : Int) → p k = true
  | 0, k, h => by
    simp only [ovI] at h
    omega
  | n + 1, k, h => by
    rw [ovI] at h
    split at h
    · rename_i hc
      obtain rfl : n = k := by omega
      exact hc.2
    · exact ov_true h
/-- The kinds of wear and the runs, as the law has them. -/
def knL (wb : List Int) : List Rg := wb.map fun w => (w, w)
def roL (n : Nat) (rb : List Int) : List Int := rb.map fun r => r % n
theorem knL_len (ws : List Int) : (knL ws).length = ws.length := by simp [knL]
theorem roL_len (n : Nat) (ws : List Int) : (roL n ws).length = ws.length := by simp [roL]
theorem nth_mapI {f : Int → Int} {xs : List Int} {k : Nat} (h : k < xs.length) : nth (xs.map f) k = f (nth xs k) := by
  have h1 := get_nth (xs := xs.map f) (i := k) (by simpa using h)
  have h2 := get_nth (xs := xs) (i := k) h
  rw [List.getElem?_map, h2] at h1
  exact (Option.some.inj h1).symm
theorem kn_snoc {ws : List Int} {k : Nat} (h : k < ws.length) : rows eR (knL (ws.take (k + 1))) = rows eR (knL (ws.take k)) ++ [.int .i64 (nth ws k), .int .i64 (nth ws k)] := by
  unfold knL
  rw [List.take_add_one, get_nth h, Option.toList_some, List.map_append, rows_append]
  rfl
theorem kn_len {ws : List Int} {k : Nat} (h : k ≤ ws.length) : (rows eR (knL (ws.take k))).length = k * 2 := by
  rw [rows_len (f := eR), knL_len, List.length_take, Nat.min_eq_left h]
theorem w_snoc {ws : List Int} {k : Nat} (h : k < ws.length) : rows eN (ws.take (k + 1)) = rows eN (ws.take k) ++ [.int .i64 (nth ws k)] := by
  rw [List.take_add_one, get_nth h, Option.toList_some, rows_append]
  rfl
theorem w_len {ws : List Int} {k : Nat} (h : k ≤ ws.length) : (rows eN (ws.take k)).length = k := by
  rw [rows_len (f := eN), List.length_take, Nat.min_eq_left h, Nat.mul_one]
theorem ro_snoc {n : Nat} {ws : List Int} {k : Nat} (h : k < ws.length) : rows eN (roL n (ws.take (k + 1))) = rows eN (roL n (ws.take k)) ++ [.int .i64 (nth ws k % n)] := by
  unfold roL
  rw [List.take_add_one, get_nth h, Option.toList_some, List.map_append, rows_append]
  rfl
theorem ro_len {n : Nat} {ws : List Int} {k : Nat} (h : k ≤ ws.length) : (rows eN (roL n (ws.take k))).length = k := by
  rw [rows_len (f := eN), roL_len, List.length_take, Nat.min_eq_left h, Nat.mul_one]
section
variable {wb rb : List Int} {n m : Nat} {life : Int}
/-- What the runs before one have worn. -/
def suW (n : Nat) (wb rb : List Int) (k : Nat) : Int := sW (·.2) (knL wb) (roL n rb) k
/-- The first run that is too much. -/
def agI (n : Nat) (life : Int) (wb rb : List Int) (m : Nat) : Int := ovI (fun k => decide (life - suW n wb rb (k + 1) < 0)) m
theorem ro_nth {k : Nat} (hn : 1 ≤ n) (hk : k < rb.length) : nth (roL n rb) k = nth rb k % n ∧ 0 ≤ nth (roL n rb) k ∧ nth (roL n rb) k < n := by
  have e : nth (roL n rb) k = nth rb k % n := nth_mapI hk
  rw [e]
  exact ⟨rfl, Int.emod_nonneg _ (by omega), Int.emod_lt_of_pos _ (by omega)⟩
theorem su_succ {k : Nat} (hn : 1 ≤ n) (hw : wb.length = n) (hk : k < rb.length) : suW n wb rb (k + 1) = suW n wb rb k + nth wb (nth (roL n rb) k).toNat := by
  obtain ⟨_, h1, h2⟩ := ro_nth (n := n) hn hk
  unfold suW knL
  rw [sW, nth_map (by omega)]
theorem su_eq (hn : 1 ≤ n) (hw : wb.length = n) : ∀ k, k ≤ rb.length → sW (·.1) (knL wb) (roL n rb) k = suW n wb rb k
  | 0, _ => rfl
  | k + 1, hk => by
    obtain ⟨_, h1, h2⟩ := ro_nth (n := n) (rb := rb) (k := k) hn (by omega)
    have ih := su_eq hn hw k (by omega)
    rw [su_succ hn hw (by omega), ← ih]
    unfold knL
    rw [sW, nth_map (by omega)]
theorem su_bd (hn : 1 ≤ n) (hw : wb.length = n) (hb : ∀ i, i < n → 0 ≤ nth wb i ∧ nth wb i ≤ 255) : ∀ k, k ≤ rb.length → 0 ≤ suW n wb rb k ∧ suW n wb rb k ≤ k * 255
  | 0, _ => by unfold suW; simp [sW]
  | k + 1, hk => by
    obtain ⟨_, h1, h2⟩ := ro_nth (n := n) (rb := rb) (k := k) hn (by omega)
    have ih := su_bd hn hw hb k (by omega)
    have := hb (nth (roL n rb) k).toNat (by omega)
    rw [su_succ hn hw (by omega)]
    omega
theorem aged_law (hn : 1 ≤ n ∧ n ≤ 8) (hm : m ≤ 12) (hw : wb.length = n) (hr : rb.length = m) (hl : 0 ≤ life ∧ life ≤ 255) (hb : ∀ i, i < n → 0 ≤ nth wb i ∧ nth wb i ≤ 255) :
    agF life (knL wb) (roL n rb) = (agI n life wb rb m, agI n life wb rb m, 0) := by
  have e0 : agE life (knL wb) (roL n rb) = 0 := by
    unfold agE
    rw [if_neg (by rw [roL_len, knL_len]; omega), if_neg, if_neg]
    · intro h
      obtain ⟨x, hx, hx2⟩ := List.any_eq_true.1 h
      obtain ⟨i, hi, rfl⟩ := List.mem_iff_getElem.1 hx
      rw [roL_len] at hi
      obtain ⟨_, h1, h2⟩ := ro_nth (n := n) (rb := rb) (k := i) hn.1 hi
      have h3 := get_nth (xs := roL n rb) (i := i) (by rw [roL_len]; exact hi)
      rw [List.getElem?_eq_getElem (by rw [roL_len]; exact hi)] at h3
      rw [Option.some.inj h3, inT_yes h1 (by rw [knL_len, hw]; omega)] at hx2
      cases hx2
    · rintro (h | h)
      · rw [inT_yes (by omega) (by omega)] at h
        cases h
      · obtain ⟨x, hx, hx2⟩ := List.any_eq_true.1 h
        obtain ⟨i, hi, rfl⟩ := List.mem_iff_getElem.1 hx
        rw [knL_len] at hi
        have h3 := get_nth (xs := knL wb) (i := i) (by rw [knL_len]; exact hi)
        rw [List.getElem?_eq_getElem (by rw [knL_len]; exact hi)] at h3
        have h4 := hb i (by omega)
        rw [Option.some.inj h3] at hx2
        unfold knL at hx2
        rw [nth_map hi] at hx2
        unfold badR at hx2
        simp only [Bool.or_eq_true, decide_eq_true_eq] at hx2
        omega
  unfold agF agP
  rw [if_pos e0, roL_len, hr]
  have e1 : ovI (fun k => decide (life - sW (·.1) (knL wb) (roL n rb) (k + 1) < 0)) m = agI n life wb rb m := by
    unfold agI
    exact ov_congr _ fun k hk => by rw [su_eq hn.1 hw _ (by omega)]
  rw [e1]
  rfl
end
end Go.Proofs.Ythoigkgjidcklaa
