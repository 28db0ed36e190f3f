/-
  Walks on memory by names: results that stand in cells.
-/
import Derived.Test.YthoigkgjidcklaaMg
set_option linter.unusedSimpArgs false
set_option linter.unusedVariables false
namespace Go.Vm
open Go Go.RowKit
/-- A type of one cell. -/
def okCell (P : Program) (t : TypeId) : Bool := match P.underlying t, P.info? t with
  | some d, some _ => !isAggD d
  | _, _ => false
theorem aLoad_c {P : Program} {h : AH} {t : TypeId} {k o : Nat} (e : okCell P t = true) : aLoad P h t (.pointer (some ⟨k, o, none⟩)) = cellAt h k o := by
  unfold okCell at e
  split at e
  · rename_i d i hd hi
    unfold aLoad cellAt
    simp only [hd, hi]
    have ha : isAggD d = false := by simpa using e
    cases hg : h.get k with
    | none => rfl
    | some x => cases x <;> simp [ha]
  · cases e
/-- A type of many cells. -/
def okAgg (P : Program) (t : TypeId) (n : Nat) : Bool := match P.underlying t, P.info? t with
  | some d, some i => isAggD d && i.size == n
  | _, _ => false
theorem aLoad_a {P : Program} {h : AH} {t : TypeId} {k o : Nat} (n : Nat) (e : okAgg P t n = true) : aLoad P h t (.pointer (some ⟨k, o, none⟩)) = (cellsAt h k o n).map fun l => .agg ⟨l⟩ := by
  unfold okAgg at e
  split at e
  · rename_i d i hd hi
    unfold aLoad cellsAt
    simp only [Bool.and_eq_true, beq_iff_eq] at e
    obtain ⟨ha, rfl⟩ := e
    simp only [hd, hi]
    cases hg : h.get k with
    | none => rfl
    | some x =>
      cases x with
      | cells b =>
        simp only [ha, if_true]
        split <;> simp
      | _ => simp
  · cases e
theorem resF_nil {P : Program} {l : Fr} {h : AH} : resF P l h [] = some [] := rfl
theorem resF_cell {P : Program} {l : Fr} {h : AH} {d ty k o : Nat} {r : List ResultVar} {v : Value} {vs : List Value} (hd : lk l d = some (.pointer (some ⟨k, o, none⟩))) (ht : okCell P ty = true) (hv : cellAt h k o = some v) (hr : resF P l h r = some vs) : resF P l h (.cell d ty :: r) = some (v :: vs) := by
  simp only [resF, hd, hr, aLoad_c ht, hv]
theorem resF_agg {P : Program} {l : Fr} {h : AH} {d ty k o : Nat} {r : List ResultVar} {cs : List Value} {vs : List Value} (n : Nat) (hd : lk l d = some (.pointer (some ⟨k, o, none⟩))) (ht : okAgg P ty n = true) (hv : cellsAt h k o n = some cs) (hr : resF P l h r = some vs) : resF P l h (.cell d ty :: r) = some (.agg ⟨cs⟩ :: vs) := by
  simp only [resF, hd, hr, aLoad_a n ht, hv, Option.map_some]
theorem resF_tmp {P : Program} {l : Fr} {h : AH} {d : Nat} {r : List ResultVar} {v : Value} {vs : List Value} (hd : lk l d = some v) (hr : resF P l h r = some vs) : resF P l h (.tmp d :: r) = some (v :: vs) := by
  simp only [resF, hd, hr]
theorem news_c {h : AH} {o : AObj} {os : List AObj} : h.news (o :: os) = (h.new o).news os := rfl
theorem news_n {h : AH} : h.news [] = h := rfl
theorem appK_0 {h : AH} {sz bytes : Nat} {a : Option Addr} {k2 o2 c2 : Nat} {K : Value → AH → Prop} : appK h sz bytes (.slice a 0 0) (.slice (some ⟨k2, o2, none⟩) 0 c2) K = K (.slice a 0 0) h := by
  unfold appK
  have e : sCells h sz (.slice (some ⟨k2, o2, none⟩) 0 c2) = some [] := by unfold sCells; exact if_pos rfl
  rw [e]
  simp only [slen_slice]
  exact propext ⟨fun h => (h.1 trivial).2, fun h => ⟨fun _ => ⟨.inl ⟨by unfold openB; omega, Nat.le_refl _⟩, h⟩, fun e => absurd rfl e⟩⟩
/-- Ways that meet again in one state. -/
theorem ITri.one {P : Program} {nt b : Nat} {rd : Option Nat} {ic : IC} {l : Fr} {ms : List Nat} {h : AH} {Q : AEx → Fr → List Nat → AH → Prop} (l2 : Fr) (T : ITri P nt rd b ic l ms h fun e l' ms' h' => e = .normal ∧ l' = l2 ∧ ms' = ms ∧ h' = h) (q : Q .normal l2 ms h) : ITri P nt rd b ic l ms h Q :=
  T.mono (by rintro _ _ _ _ ⟨rfl, rfl, rfl, rfl⟩; exact q)
theorem Fc.at {P : Program} {f : Nat} {args : List Value} {h g h' : AH} {v : Value} (F : Fc P f args h v h') (e : g = h) : Fc P f args g v h' := by rw [e]; exact F
end Go.Vm
