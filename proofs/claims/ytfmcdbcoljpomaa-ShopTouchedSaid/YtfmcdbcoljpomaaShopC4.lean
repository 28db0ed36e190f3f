/-
  Chapter 11, plain: what touches taint.
-/
import Derived.Test.YtfmcdbcoljpomaaShopC1
set_option linter.unusedSimpArgs false
set_option linter.unusedVariables false
namespace Go.Proofs.Ytfmcdbcoljpomaa
open Go.RowKit Go.Vm
/-- One touch: what the lots and the tools are tainted since. -/
def tnS (ab : List Int × List Int) (x : Tc) : List Int × List Int :=
  if x.2.1 < 0 then (ab.1, ab.2.set x.2.2.toNat (-1))
  else if 0 ≤ nth ab.2 x.2.2.toNat ∧ nth ab.1 x.2.1.toNat < 0 then (ab.1.set x.2.1.toNat x.1, ab.2)
  else if nth ab.2 x.2.2.toNat < 0 ∧ 0 ≤ nth ab.1 x.2.1.toNat then (ab.1, ab.2.set x.2.2.toNat x.1)
  else ab
theorem set_rep {α : Type} (n i : Nat) (v : α) : (List.replicate n v).set i v = List.replicate n v := by
  apply List.ext_getElem?
  intro j
  rw [List.getElem?_set]
  split
  · rename_i h
    subst h
    simp [List.getElem?_replicate]
  · rfl
theorem nth_rep {n i : Nat} {v : Int} (h : i < n) : nth (List.replicate n v) i = v := by
  have h1 := get_nth (xs := List.replicate n v) (i := i) (by simpa using h)
  rw [List.getElem?_replicate, if_pos h] at h1
  exact (Option.some.inj h1).symm
/-- While all is clean nothing changes. -/
theorem tn_idle {p q : Nat} {x : Tc} (h1 : x.2.1 < p) (h2 : 0 ≤ x.2.2 ∧ x.2.2 < q) : tnS (List.replicate p (-1), List.replicate q (-1)) x = (List.replicate p (-1), List.replicate q (-1)) := by
  unfold tnS
  split
  · rw [set_rep]
  · rename_i h
    simp only at h ⊢
    rw [nth_rep (show x.2.2.toNat < q by omega), nth_rep (show x.2.1.toNat < p by omega)]
    rfl
/-- All touches from one on, from since on. -/
def tnF (l : List Tc) (p q : Nat) (bad : Nat) (since : Int) (st : Nat) : List Int × List Int :=
  (l.drop st).foldl tnS (List.replicate p (-1), (List.replicate q (-1)).set bad since)
theorem tcS_ok {lots tools : Int} : ∀ {l : List Tc} {last : Int}, tcS lots tools l last = 0 → (∀ x ∈ l, last ≤ x.1 ∧ x.1 ≤ 100000000 ∧ (-1 ≤ x.2.1 ∧ x.2.1 ≤ lots - 1) ∧ 0 ≤ x.2.2 ∧ x.2.2 ≤ tools - 1) ∧ l.Pairwise (fun x y => x.1 ≤ y.1)
  | [], _, _ => ⟨fun x h => by simp at h, List.Pairwise.nil⟩
  | x :: r, last, h => by
    rw [tcS] at h
    split at h
    · exact absurd h (by decide)
    · rename_i h1
      split at h
      · exact absurd h (by decide)
      · rename_i h2
        have q1 : inT x.1 last 100000000 = true := by simpa using h1
        have q2 : inT x.2.1 (-1) (lots - 1) = true := by
          cases hc : inT x.2.1 (-1) (lots - 1) with
          | true => rfl
          | false => exact absurd (.inl hc) h2
        have q3 : inT x.2.2 0 (tools - 1) = true := by
          cases hc : inT x.2.2 0 (tools - 1) with
          | true => rfl
          | false => exact absurd (.inr hc) h2
        have b1 := inT_ok q1
        have b2 := inT_ok q2
        have b3 := inT_ok q3
        obtain ⟨ih1, ih2⟩ := tcS_ok h
        refine ⟨fun y hy => ?_, List.Pairwise.cons (fun y hy => (ih1 y hy).1) ih2⟩
        rcases List.mem_cons.1 hy with e | e
        · subst e
          exact ⟨b1.1, b1.2, b2, b3⟩
        · have := ih1 y e
          exact ⟨by omega, this.2⟩
theorem tc_ok {l : List Tc} {lots tools bad since : Int} (h : tcE l lots tools bad since = 0) : l.length ≤ 500 ∧ (0 ≤ lots ∧ lots ≤ 100) ∧ (0 ≤ tools ∧ tools ≤ 100) ∧ (0 ≤ since ∧ since ≤ 100000000) ∧ (0 ≤ bad ∧ bad ≤ tools - 1) ∧ (∀ x ∈ l, 0 ≤ x.1 ∧ x.1 ≤ 100000000 ∧ (-1 ≤ x.2.1 ∧ x.2.1 ≤ lots - 1) ∧ 0 ≤ x.2.2 ∧ x.2.2 ≤ tools - 1) ∧ l.Pairwise (fun x y => x.1 ≤ y.1) := by
  unfold tcE at h
  split at h
  · exact absurd h (by decide)
  · rename_i h1
    split at h
    · exact absurd h (by decide)
    · rename_i h2
      split at h
      · exact absurd h (by decide)
      · rename_i h3
        have q1 : inT lots 0 100 = true := by
          cases hc : inT lots 0 100 with
          | true => rfl
          | false => exact absurd (.inl hc) h2
        have q2 : inT tools 0 100 = true := by
          cases hc : inT tools 0 100 with
          | true => rfl
          | false => exact absurd (.inr (.inl hc)) h2
        have q3 : inT since 0 100000000 = true := by
          cases hc : inT since 0 100000000 with
          | true => rfl
          | false => exact absurd (.inr (.inr hc)) h2
        have q4 : inT bad 0 (tools - 1) = true := by simpa using h3
        exact ⟨by omega, inT_ok q1, inT_ok q2, inT_ok q3, inT_ok q4, tcS_ok h⟩
/-- The first touch from a time on. -/
theorem st_ex {l : List Tc} (hs : l.Pairwise (fun x y => x.1 ≤ y.1)) (t : Int) : ∃ st, st ≤ l.length ∧ (∀ q, q < st → (nth l q).1 < t) ∧ ∀ q, st ≤ q → q < l.length → t ≤ (nth l q).1 := by
  induction l with
  | nil => exact ⟨0, Nat.le_refl _, fun q h => by omega, fun q h1 h2 => by simp at h2⟩
  | cons x r ih =>
    rw [List.pairwise_cons] at hs
    by_cases hx : x.1 < t
    · obtain ⟨st, h1, h2, h3⟩ := ih hs.2
      refine ⟨st + 1, by simpa using h1, fun q hq => ?_, fun q hq hl => ?_⟩
      · cases q with
        | zero => exact hx
        | succ q => exact h2 q (by omega)
      · cases q with
        | zero => omega
        | succ q => exact h3 q (by omega) (by simpa using hl)
    · refine ⟨0, Nat.zero_le _, fun q h => by omega, fun q _ hl => ?_⟩
      cases q with
      | zero => show t ≤ x.1; omega
      | succ q =>
        have hq : q < r.length := by simpa using hl
        have := hs.1 _ (nth_mem hq)
        show t ≤ (nth r q).1
        omega
theorem touches_f {n : Nat} {l : List Tc} (lots tools bad since : Int) (hl : l.length = n) (hb : n ≤ 1000000) {h : AH} {s : Value} (h0 : h.sees 0 = true) (r : Rd h s n (rows eC l)) :
    Fc Try.prog 61 [s, .int .i64 lots, .int .i64 tools, .int .i64 bad, .int .i64 since] h (.int .i64 (tcE l lots tools bad since)) h :=
  Fc.lift1 (mk := fun ss => [] ++ ss ++ [.int .i64 lots, .int .i64 tools, .int .i64 bad, .int .i64 since]) (mkv := fun _ => .int .i64 (tcE l lots tools bad since)) (os := []) (fun c => touches_c n c l lots tools bad since hl hb) (MkL.mid rfl rfl) (MkV.const rfl) (rows_no (f := eC) l) (fun o ho => by cases ho) h0 r
/-- The touches ahead of the first one from since on change nothing. -/
theorem tn_skip {p q : Nat} : ∀ {l : List Tc}, (∀ x ∈ l, x.2.1 < p ∧ 0 ≤ x.2.2 ∧ x.2.2 < q) → l.foldl tnS (List.replicate p (-1), List.replicate q (-1)) = (List.replicate p (-1), List.replicate q (-1))
  | [], _ => rfl
  | x :: r, h => by
    have hx := h x (by simp)
    rw [List.foldl_cons, tn_idle hx.1 hx.2]
    exact tn_skip fun y hy => h y (by simp [hy])
theorem tnS_len (ab : List Int × List Int) (x : Tc) : (tnS ab x).1.length = ab.1.length ∧ (tnS ab x).2.length = ab.2.length := by
  unfold tnS
  split
  · simp
  · split
    · simp
    · split
      · simp
      · simp
/-- What is tainted ahead of touch k. -/
def tnK (l : List Tc) (p q bad : Nat) (since : Int) (st k : Nat) : List Int × List Int :=
  ((l.drop st).take (k - st)).foldl tnS (List.replicate p (-1), (List.replicate q (-1)).set bad since)
theorem tnK_st (l : List Tc) (p q bad : Nat) (since : Int) (st : Nat) : tnK l p q bad since st st = (List.replicate p (-1), (List.replicate q (-1)).set bad since) := by
  unfold tnK
  rw [Nat.sub_self, List.take_zero]
  rfl
theorem tnK_next {l : List Tc} {p q bad : Nat} {since : Int} {st k : Nat} (h1 : st ≤ k) (h2 : k < l.length) : tnK l p q bad since st (k + 1) = tnS (tnK l p q bad since st k) (nth l k) := by
  have e : (l.drop st)[k - st]? = some (nth l k) := by
    rw [List.getElem?_drop, show st + (k - st) = k by omega]
    exact get_nth h2
  unfold tnK
  rw [show k + 1 - st = (k - st) + 1 by omega, List.take_add_one, e, List.foldl_append]
  rfl
theorem tnK_end {l : List Tc} {p q bad : Nat} {since : Int} {st : Nat} : tnK l p q bad since st l.length = tnF l p q bad since st := by
  unfold tnK tnF
  rw [List.take_of_length_le (by rw [List.length_drop]; exact Nat.le_refl _)]
end Go.Proofs.Ytfmcdbcoljpomaa
