/-
  Chapter 7, turns: the reference's lists of numbers, by the machine for closed runs.
-/
import Derived.Test.YtlkfcbdbieenhaaCropT2
import Derived.Test.YtlkfcbdbieenhaaCropKv
import Derived.Test.YtlkfcbdbieenhaaMi
import Derived.KernelRfl
set_option linter.unusedSimpArgs false
set_option linter.unusedVariables false
namespace Go.Proofs.Ytlkfcbdbieenhaa
open Go.RowKit Go.Vm
set_option maxRecDepth 1000000
def capL (m : Nat) : Nat := if m = 1 then 1 else openB
def inL (m : Nat) (y : List Int) : AObj := .cells ⟨rows eN y, 1, decide (2 ≤ m)⟩
def slL (m k : Nat) : Value := .slice (some ⟨k, 0, none⟩) m (capL m)
def lsO (b m : Nat) (ys : List (List Int)) : List AObj := ys.map (inL m) ++ [.cells ⟨(List.range' b ys.length).map (slL m), 1, true⟩]
def slN : Value → Option Nat
  | .slice (some ⟨k, 0, none⟩) _ _ => some k
  | _ => none
def chkRow (h : AH) (m k : Nat) (y : List Int) : Bool := match h.get k with
  | some (.cells ⟨c, 1, op⟩) => sameL c (rows eN y) && (op == decide (2 ≤ m))
  | _ => false
def chkL (m : Nat) (ys : List (List Int)) : Option (Value × AH) → Bool
  | some (v1, h1) => match slN v1 with
    | some ko => match h1.get ko with
      | some (.cells ⟨cs, 1, true⟩) =>
        let ks := cs.map fun v => (slN v).getD 0
        sameV v1 (.slice (some ⟨ko, 0, none⟩) ys.length openB) && sameL cs (ks.map (slL m)) && decide (ks ++ [ko]).Nodup && (ks ++ [ko]).all (fun k => Nat.ble 1 k) && Nat.beq ks.length ys.length && (ks.zip ys).all fun p => chkRow h1 m p.1 p.2
      | _ => false
    | none => false
  | none => false
structure LsOk (m : Nat) (ys : List (List Int)) (v1 : Value) (h1 : AH) (ks : List Nat) (ko : Nat) : Prop where
  val : v1 = .slice (some ⟨ko, 0, none⟩) ys.length openB
  out : h1.get ko = some (.cells ⟨ks.map (slL m), 1, true⟩)
  nodup : (ks ++ [ko]).Nodup
  ge : ∀ k ∈ ks ++ [ko], 1 ≤ k
  len : ks.length = ys.length
  inn : ∀ (i : Nat) (y : List Int), ys[i]? = some y → ∃ k, ks[i]? = some k ∧ h1.get k = some (inL m y)
theorem chkRow_ok {h : AH} {m k : Nat} {y : List Int} (e : chkRow h m k y = true) : h.get k = some (inL m y) := by
  unfold chkRow at e
  split at e
  · rename_i c op g
    simp only [Bool.and_eq_true, beq_iff_eq] at e
    rw [g, sameL_eq e.1, e.2]
    rfl
  · cases e
theorem chkL_ok {m : Nat} {ys : List (List Int)} : ∀ {r : Option (Value × AH)}, chkL m ys r = true → ∃ v1 h1 ks ko, r = some (v1, h1) ∧ LsOk m ys v1 h1 ks ko
  | none, e => by cases e
  | some (v1, h1), e => by
    unfold chkL at e
    simp only at e
    cases hk : slN v1 with
    | none => rw [hk] at e; cases e
    | some ko =>
      rw [hk] at e
      simp only at e
      split at e
      · rename_i cs hc
        simp only [Bool.and_eq_true, decide_eq_true_eq] at e
        obtain ⟨⟨⟨⟨⟨e1, e2⟩, e3⟩, e4⟩, e5⟩, e6⟩ := e
        generalize hks : (cs.map fun v => (slN v).getD 0) = ks at *
        refine ⟨v1, h1, ks, ko, rfl, sameV_eq e1, by rw [hc, sameL_eq e2], e3, fun k hk => ?_, Nat.eq_of_beq_eq_true e5, fun i y hy => ?_⟩
        · have := List.all_eq_true.1 e4 k hk
          exact Nat.le_of_ble_eq_true this
        · have hl := Nat.eq_of_beq_eq_true e5
          have hi : i < ys.length := (List.getElem?_eq_some_iff.1 hy).1
          have hki : ks[i]? = some ks[i] := List.getElem?_eq_getElem (by omega)
          refine ⟨_, hki, ?_⟩
          have hz : (ks.zip ys)[i]? = some (ks[i], y) := by rw [List.getElem?_zip_eq_some]; exact ⟨hki, hy⟩
          exact chkRow_ok (List.all_eq_true.1 e6 _ (List.mem_of_getElem? hz))
      · cases e
noncomputable abbrev listsR (n m : Nat) : Option (Value × AH) := (aRun Try.prog noHook 100000 50).fn 76 [.int .i64 0, .int .i64 n, .int .i64 m] (Hp 1 [none])
theorem t_lists : ((List.range 6).all fun n => (List.range (n + 1)).all fun m => Nat.beq m 0 || chkL m (lsM n m 0) (listsR n m)) = true := by kernel_rfl
theorem lists_c (n m : Nat) (hn : n ≤ 5) (hm : 1 ≤ m) (hmn : m ≤ n) : Fc Try.prog 76 [.int .i64 0, .int .i64 n, .int .i64 m] (Hp 1 [none]) (.slice (some ⟨1 + (lsM n m 0).length, 0, none⟩) (lsM n m 0).length openB) ((Hp 1 [none]).news (lsO 1 m (lsM n m 0))) := by
  have e1 := List.all_eq_true.1 t_lists n (List.mem_range.2 (by omega))
  have e2 := List.all_eq_true.1 e1 m (List.mem_range.2 (by omega))
  rw [Bool.or_eq_true] at e2
  have e3 : chkL m (lsM n m 0) (listsR n m) = true := by
    rcases e2 with h | h
    · have := Nat.eq_of_beq_eq_true h
      omega
    · exact h
  obtain ⟨v1, h1, ks, ko, hr, O⟩ := chkL_ok e3
  have F := Fc.of_run (aRun_ok t_mixed t_names noHook_ok 100000 50) hr
  generalize lsM n m 0 = ys at *
  have hsl : ∀ i, i < ys.length → ∀ k, ks[i]? = some k → (ks ++ [ko]).getD i 0 = k := fun i hi k hk => by
    rw [List.getD_eq_getElem?_getD, List.getElem?_append_left (by rw [O.len]; exact hi), hk]; rfl
  have hso : (ks ++ [ko]).getD ys.length 0 = ko := by
    rw [List.getD_eq_getElem?_getD, ← O.len, List.getElem?_append_right (Nat.le_refl _), Nat.sub_self]; rfl
  have hlen : (lsO 1 m ys).length = ys.length + 1 := by simp [lsO]
  refine Fc.gc F rfl rfl (ks ++ [ko]) [] (by rw [hlen]; simp [O.len]) O.nodup (fun s hs => O.ge s hs) (fun p hp => by cases hp) ?_ ?_ ?_
  · rw [O.val]
    show _ = Value.slice (some ⟨if 1 + ys.length < 1 then _ else (ks ++ [ko]).getD (1 + ys.length - 1) 0, 0, none⟩) _ _
    rw [if_neg (by omega), show 1 + ys.length - 1 = ys.length by omega, hso]
  · refine ⟨?_, trivial⟩
    rw [hlen]
    show 1 + ys.length < 1 + (ys.length + 1)
    omega
  · intro i o2 ho
    refine .inr ⟨fun h => (by cases h), ?_⟩
    unfold lsO at ho
    rcases Nat.lt_or_ge i ys.length with h | h
    · rw [List.getElem?_append_left (by simpa using h), List.getElem?_map, List.getElem?_eq_getElem h] at ho
      cases ho
      obtain ⟨k, hk, hg⟩ := O.inn i ys[i] (List.getElem?_eq_getElem h)
      rw [hsl i h k hk]
      refine ⟨_, hg, ?_⟩
      exact ⟨(mvL_noAddr _ _ _ (rows_no _)).symm, okML_noAddr _ _ _ (rows_no _), fun e => e, fun e => ⟨e, rfl⟩⟩
    · obtain rfl : i = ys.length := by
        have := (List.getElem?_eq_some_iff.1 ho).1
        simp at this
        omega
      rw [List.getElem?_append_right (by simp), List.length_map, Nat.sub_self] at ho
      cases ho
      rw [hso]
      refine ⟨_, O.out, ?_, ?_, fun e => e, fun e => ⟨rfl, rfl⟩⟩
      · rw [mvL_map, List.map_map]
        show ks.map (slL m) = _
        apply List.ext_getElem?
        intro j
        rw [List.getElem?_map, List.getElem?_map]
        rcases Nat.lt_or_ge j ys.length with hj | hj
        · rw [List.getElem?_range' hj, List.getElem?_eq_getElem (by rw [O.len]; exact hj)]
          simp only [Option.map_some, Function.comp, Nat.one_mul]
          show some (slL m _) = some (Value.slice (some ⟨if 1 + j < 1 then _ else (ks ++ [ko]).getD (1 + j - 1) 0, 0, none⟩) _ _)
          rw [if_neg (by omega), show 1 + j - 1 = j by omega, hsl j hj _ (List.getElem?_eq_getElem (by rw [O.len]; exact hj))]
          rfl
        · rw [List.getElem?_eq_none (by rw [O.len]; exact hj), List.getElem?_eq_none (by simpa using hj)]
          rfl
      · rw [okML_iff]
        intro v hv
        obtain ⟨k, hk, rfl⟩ := List.mem_map.1 hv
        have := List.mem_range'.1 hk
        refine ⟨?_, trivial⟩
        rw [hlen]
        show k < 1 + (ys.length + 1)
        omega
theorem lists_f (n m : Nat) (hn : n ≤ 5) (hm : 1 ≤ m) (hmn : m ≤ n) {h : AH} (h0 : h.sees 0 = true) : Fc Try.prog 76 [.int .i64 0, .int .i64 n, .int .i64 m] h (.slice (some ⟨h.next + (lsM n m 0).length, 0, none⟩) (lsM n m 0).length openB) (h.news (lsO h.next m (lsM n m 0))) := by
  have F := lists_c n m hn hm hmn
  generalize lsM n m 0 = ys at *
  have hps : ∀ k, 1 ≤ k → psi1 (psL [(0, 0, false)]) 1 h.next k = (h.next + (k - 1), 0, false) := fun k hk => if_neg (by omega)
  have hxi : ∀ k, 1 ≤ k → xiP (psi1 (psL [(0, 0, false)]) 1 h.next) k = .same := fun k hk => by unfold xiP; rw [hps k hk]; rfl
  have hlen : (lsO 1 m ys).length = ys.length + 1 := by simp [lsO]
  rw [show (Hp 1 [none]).news (lsO 1 m ys) = Hp 1 ([none] ++ (lsO 1 m ys).map some) from Hq_news _] at F
  refine Fc.frameL F [(0, 0, false)] ?_ ⟨fr_none h0, trivial⟩ ⟨trivial, trivial, trivial, trivial⟩ ?_ ?_ rfl ?_ ?_
  · rw [List.all_eq_true]
    intro o ho
    unfold lsO at ho
    rcases List.mem_append.1 ho with h | h
    · obtain ⟨y, _, rfl⟩ := List.mem_map.1 h
      rfl
    · simp only [List.mem_singleton] at h
      subst h
      rfl
  · refine ⟨?_, ?_⟩
    · rw [hlen]
      show 1 + ys.length < 1 + (ys.length + 1)
      omega
    · show okS (xiP (psi1 (psL [(0, 0, false)]) 1 h.next) (1 + ys.length)) _ _
      rw [hxi _ (by omega)]
      trivial
  · intro o ho
    unfold lsO at ho
    rcases List.mem_append.1 ho with h | h
    · obtain ⟨y, _, rfl⟩ := List.mem_map.1 h
      exact okML_noAddr _ _ _ (rows_no _)
    · simp only [List.mem_singleton] at h
      subst h
      show okML _ _ _
      rw [okML_iff]
      intro v hv
      obtain ⟨k, hk, rfl⟩ := List.mem_map.1 hv
      have := List.mem_range'.1 hk
      refine ⟨?_, ?_⟩
      · rw [hlen]
        show k < 1 + (ys.length + 1)
        omega
      · show okS (xiP (psi1 (psL [(0, 0, false)]) 1 _) k) _ _
        rw [hxi _ (by omega)]
        trivial
  · have := hps (1 + ys.length) (by omega)
    rw [show 1 + ys.length - 1 = ys.length by omega] at this
    exact mw_sl this
  · congr 1
    unfold lsO
    rw [List.map_append, List.map_map]
    congr 1
    · apply List.map_congr_left
      intro y _
      show AObj.cells ⟨mwL _ (rows eN y), 1, _⟩ = _
      rw [mwL_noAddr _ _ (rows_no _)]
      rfl
    · show [AObj.cells ⟨mwL _ _, 1, true⟩] = _
      rw [mwL_map, List.map_map]
      congr 3
      apply List.ext_getElem?
      intro j
      rw [List.getElem?_map, List.getElem?_map]
      rcases Nat.lt_or_ge j ys.length with hj | hj
      · rw [List.getElem?_range' hj, List.getElem?_range' hj]
        simp only [Option.map_some, Function.comp, Nat.one_mul]
        have := hps (1 + j) (by omega)
        rw [show 1 + j - 1 = j by omega] at this
        exact congrArg some (mw_sl this)
      · rw [List.getElem?_eq_none (by simpa using hj), List.getElem?_eq_none (by simpa using hj)]
        rfl
end Go.Proofs.Ytlkfcbdbieenhaa
