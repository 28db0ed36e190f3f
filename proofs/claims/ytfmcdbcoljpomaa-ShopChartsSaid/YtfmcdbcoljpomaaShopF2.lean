/-
  Walks by names: maps whose keys are pairs of numbers; parts of slices.
-/
import Derived.Test.YtfmcdbcoljpomaaShopA1
set_option linter.unusedSimpArgs false
set_option linter.unusedVariables false
namespace Go.Vm
open Go Go.RowKit
theorem get_hq {wl k : Nat} {hid : List (Nat × Nat)} {L : List (Option AObj)} {o : AObj} (hf : freeOf hid k = true) (hL : (L[k]?).join = some o) : (Hq wl hid L).get k = some o := (free_get hf).trans hL
section
variable {P : Program} {w : Bool} {t el : TypeId} {f : TypeInfo} {s k o n c : Nat} {l : Fr} {h : AH} {K : Value → AH → Prop}
theorem Hq_bump {wl : Nat} {hid : List (Nat × Nat)} {L : List (Option AObj)} : (Hq wl hid L).bump = Hq wl hid (L ++ [none]) := by
  unfold AH.bump Hq
  rw [trL_snoc]
  simp
/-- All but the first of a row with open room. -/
theorem gen_from1 {d : Nat} (hu : P.underlying t = some (.slice el)) (hi : P.info? el = some f) (hsz : f.size = 1) (hl : lk l s = some (.slice (some ⟨k, o, none⟩) n (openB + d))) (hn : 2 ≤ n) (q : K (.slice (some ⟨k, o + 1, none⟩) (n - 1) (openB + d + 1)) h) :
    iStep P w (.gen (.slice t (.tmp s) (some (.const (.int .i64 1))) none none)) l h K := by
  refine ⟨_, _, ?_, q⟩
  have ho : ¬ openB + d < openB := by omega
  have h1 : aSlice P t (.slice (some ⟨k, o, none⟩) n (openB + d)) (some (.int .i64 1)) none none = some (.slice (some ⟨k, o + 1, none⟩) (n - 1) (openB + d + 1)) := by
    simp [aSlice, hu, hi, natOf, ho, hsz, Addr.add]
    omega
  have e1 : aEnv (trOf l) (.tmp s) = some (.slice (some ⟨k, o, none⟩) n (openB + d)) := by simp only [aEnv, trOf_get, hl]
  have e2 : aOptV (aEnv (trOf l)) (some (.const (.int .i64 1))) = some (some (.int .i64 1)) := rfl
  have e3 : aOptV (aEnv (trOf l)) none = some none := rfl
  simp only [aOp, e1, e2, e3, h1]
/-- The first elements of a row, whatever its room. -/
theorem gen_to {i : Nat} {j : Int} (hu : P.underlying t = some (.slice el)) (hi : P.info? el = some f) (hl : lk l s = some (.slice (some ⟨k, 0, none⟩) n c)) {e : Nat} (he : lk l e = some (.int .i64 j)) (hj : j = i) (hn : i ≤ n) (hc : c < openB → n ≤ c) (q : K (.slice (some ⟨k, 0, none⟩) i c) h) :
    iStep P w (.gen (.slice t (.tmp s) none (some (.tmp e)) none)) l h K := by
  subst hj
  refine ⟨_, _, ?_, q⟩
  have h1 : aSlice P t (.slice (some ⟨k, 0, none⟩) n c) none (some (.int .i64 i)) none = some (.slice (some ⟨k, 0, none⟩) i c) := by
    by_cases ho : c < openB
    · have := hc ho
      simp [aSlice, hu, hi, natOf, ho, Addr.add]
      omega
    · simp [aSlice, hu, hi, natOf, ho, Addr.add, hn]
  have e1 : aEnv (trOf l) (.tmp s) = some (.slice (some ⟨k, 0, none⟩) n c) := by simp only [aEnv, trOf_get, hl]
  have e2 : aOptV (aEnv (trOf l)) (some (.tmp e)) = some (some (.int .i64 i)) := by simp only [aOptV, aEnv, trOf_get, he]
  have e3 : aOptV (aEnv (trOf l)) none = some none := rfl
  simp only [aOp, e1, e2, e3, h1]
/-- A slice that has an element is not nil. -/
theorem gen_eqn {r : TypeId} (hu : P.underlying t = some (.slice el)) (hl : lk l s = some (.slice (some ⟨k, o, none⟩) n c)) (hn : n ≠ 0) (q : K (.bool false) h) :
    iStep P w (.gen (.binOp .eql t (.tmp s) (.const (.slice none 0 0)) r)) l h K := by
  refine ⟨_, _, ?_, q⟩
  have e1 : aEnv (trOf l) (.tmp s) = some (.slice (some ⟨k, o, none⟩) n c) := by simp only [aEnv, trOf_get, hl]
  have e2 : aEnv (trOf l) (.const (.slice none 0 0)) = some (.slice none 0 0) := rfl
  have e3 : aEq P t (.slice (some ⟨k, o, none⟩) n c) (.slice none 0 0) = some false := by simp [aEq, hu, isNil, hn]
  have e4 : noAddr (.slice (some ⟨k, o, none⟩) n c) = false := rfl
  simp only [aOp, e1, e2, e3, e4, Bool.false_and]
  rfl
theorem gen_mkmap {kt : TypeId} (hu : P.underlying t = some (.map kt el)) (q : K (.map (some h.next)) (h.new (.map [] 0))) :
    iStep P w (.gen (.makeMap t none)) l h K := by
  refine ⟨_, _, ?_, q⟩
  have e3 : aOptV (aEnv (trOf l)) none = some none := rfl
  simp only [aOp, e3, aMakeMap, hu]
theorem gen_look {m r : Nat} {key v : Value} (hm : lk l m = some (.map (some r))) (hk : lk l k = some key) (e : aLookup P h t (.map (some r)) key false = some v) (q : K v h) :
    iStep P w (.gen (.lookup t (.tmp m) (.tmp k) false)) l h K := by
  refine ⟨_, _, ?_, q⟩
  have e1 : aEnv (trOf l) (.tmp m) = some (.map (some r)) := by simp only [aEnv, trOf_get, hm]
  have e2 : aEnv (trOf l) (.tmp k) = some key := by simp only [aEnv, trOf_get, hk]
  simp only [aOp, e1, e2, e]
theorem gen_mapU {m r x : Nat} {key v : Value} {h' : AH} (hm : lk l m = some (.map (some r))) (hk : lk l k = some key) (hx : lk l x = some v) (e : aMapUpdate P h t (.map (some r)) key v = some h') (q : K undef h') :
    iStep P w (.gen (.mapUpdate t (.tmp m) (.tmp k) (.tmp x))) l h K := by
  refine ⟨_, _, ?_, q⟩
  have e1 : aEnv (trOf l) (.tmp m) = some (.map (some r)) := by simp only [aEnv, trOf_get, hm]
  have e2 : aEnv (trOf l) (.tmp k) = some key := by simp only [aEnv, trOf_get, hk]
  have e3 : aEnv (trOf l) (.tmp x) = some v := by simp only [aEnv, trOf_get, hx]
  simp only [aOp, e1, e2, e3, e]
end
/-- Appending to a row whose room is open, from a place on. -/
theorem appK_oo {wl : Nat} {hid : List (Nat × Nat)} {L : List (Option AObj)} {k bytes n ne c2 k2 o2 o : Nat} {K : Value → AH → Prop} {all old : List Value} (hf : freeOf hid k = true) (hL : (L[k]?).join = some (AObj.cells ⟨all, 1, true⟩)) (ho : all.drop o = old) (hl : old.length = n) (hn : n ≠ 0) (hne' : ne ≠ 0) :
    appK (Hq wl hid L) 1 bytes (.slice (some ⟨k, o, none⟩) n (openB + o)) (.slice (some ⟨k2, o2, none⟩) ne c2) K =
      (match cellsAt (Hq wl hid L) k2 o2 (ne * 1) with
       | some new => chk (wl ≤ k ∧ (2 * (n + ne) + 1024) * bytes ≤ 281474976710656) (new.all Value.oneCell' = true ∧ K (.slice (some ⟨L.length, 0, none⟩) (n + ne) openB) (Hq wl hid ((L ++ [some (AObj.cells ⟨old ++ new, 1, true⟩)]).set k none)))
       | none => False) := by
  have hg : (Hq wl hid L).get k = some (.cells ⟨all, 1, true⟩) := (free_get hf).trans hL
  have hk : k < L.length := by
    rcases Nat.lt_or_ge k L.length with h | h
    · exact h
    · rw [List.getElem?_eq_none h] at hL; cases hL
  have hlen : all.length - o = n := by rw [← hl, ← ho, List.length_drop]
  have hself : sCells (Hq wl hid L) 1 (.slice (some ⟨k, o, none⟩) n (openB + o)) = some old := by
    unfold sCells
    simp only [if_neg hn, cellsAt, hg]
    rw [if_pos (by omega), ho, List.take_of_length_le (by omega)]
  have hsc : sCells (Hq wl hid L) 1 (.slice (some ⟨k2, o2, none⟩) ne c2) = cellsAt (Hq wl hid L) k2 o2 (ne * 1) := if_neg hne'
  have ho2 : ¬ openB + o < openB := by omega
  unfold appK
  rw [hsc]
  cases hx : cellsAt (Hq wl hid L) k2 o2 (ne * 1) with
  | none => rfl
  | some new =>
    simp only [slen_slice]
    unfold appN
    simp only [ho2, if_false, hg, hself]
    apply propext
    constructor
    · rintro ⟨_, h2⟩
      obtain ⟨⟨q1, q2, q3⟩, q4, q5, q6, q7⟩ := h2 hne'
      exact ⟨⟨q1, q3⟩, q6, by rw [← set_new hk]; rw [← Hq_new]; exact q7⟩
    · rintro ⟨⟨q1, q3⟩, q6, q7⟩
      rw [← set_new hk, ← Hq_new] at q7
      exact ⟨fun e => absurd e hne', fun _ => ⟨⟨q1, by omega, q3⟩, by trivial, by trivial, q6, q7⟩⟩
/-- Entries of a map whose keys are pairs of numbers. -/
abbrev KV := Int × Int × Value × Nat
def kV (a b : Int) : Value := .agg #[.int .i64 a, .int .i64 b]
def toE (e : KV) : MapEntry := ⟨kV e.1 e.2.1, e.2.2.1, e.2.2.2⟩
def findK : List KV → Int → Int → Nat → Option (Nat × Value)
  | [], _, _, _ => none
  | e :: es, a, b, i => if a = e.1 ∧ b = e.2.1 then some (i, e.2.2.1) else findK es a b (i + 1)
theorem findK_some {a b : Int} : ∀ {es : List KV} {i j : Nat} {v : Value}, findK es a b i = some (j, v) → i ≤ j ∧ ∃ e, es[j - i]? = some e ∧ a = e.1 ∧ b = e.2.1 ∧ v = e.2.2.1
  | [], _, _, _, h => by cases h
  | e :: es, i, j, v, h => by
    rw [findK] at h
    split at h
    · rename_i hc
      injection h with h
      injection h with h1 h2
      subst h1
      refine ⟨Nat.le_refl _, e, by rw [Nat.sub_self]; rfl, hc.1, hc.2, h2.symm⟩
    · obtain ⟨h1, e', h2, h3⟩ := findK_some h
      refine ⟨by omega, e', ?_, h3⟩
      rw [show j - i = (j - (i + 1)) + 1 by omega, List.getElem?_cons_succ]
      exact h2
theorem findK_set {a b : Int} {x : Value} {n : Nat} : ∀ {es : List KV} {i j : Nat} {v : Value}, findK es a b i = some (j, v) → ∀ a' b', (findK (es.set (j - i) (a, b, x, n)) a' b' i).map (·.2) = if a' = a ∧ b' = b then some x else (findK es a' b' i).map (·.2)
  | [], _, _, _, h, _, _ => by cases h
  | e :: es, i, j, v, h, a', b' => by
    rw [findK] at h
    split at h
    · rename_i hc
      injection h with h
      injection h with h1 h2
      subst h1
      rw [Nat.sub_self, List.set_cons_zero, findK]
      by_cases hq : a' = a ∧ b' = b
      · rw [if_pos hq, if_pos hq]
        rfl
      · rw [if_neg hq, if_neg hq, findK, if_neg (by rw [← hc.1, ← hc.2]; exact hq)]
    · rename_i hc
      obtain ⟨h1, e', h2, h3⟩ := findK_some h
      rw [show j - i = (j - (i + 1)) + 1 by omega, List.set_cons_succ, findK, findK]
      by_cases hq : a' = e.1 ∧ b' = e.2.1
      · rw [if_pos hq, if_pos hq, if_neg (fun e => hc (by rw [← e.1, ← e.2]; exact hq))]
      · rw [if_neg hq, if_neg hq]
        exact findK_set h a' b'
theorem findK_app {a b : Int} {x : Value} {n : Nat} : ∀ {es : List KV} {i : Nat}, findK es a b i = none → ∀ a' b', (findK (es ++ [(a, b, x, n)]) a' b' i).map (·.2) = if a' = a ∧ b' = b then some x else (findK es a' b' i).map (·.2)
  | [], i, _, a', b' => by
    simp only [List.nil_append, findK]
    split <;> rfl
  | e :: es, i, h, a', b' => by
    rw [findK] at h
    split at h
    · cases h
    · rename_i hc
      rw [List.cons_append, findK, findK]
      by_cases hq : a' = e.1 ∧ b' = e.2.1
      · rw [if_pos hq, if_pos hq, if_neg (fun e => hc (by rw [← e.1, ← e.2]; exact hq))]
      · rw [if_neg hq, if_neg hq]
        exact findK_app h a' b'
end Go.Vm
namespace Go.Proofs.Ytfmcdbcoljpomaa
open Go.RowKit Go.Vm
set_option maxRecDepth 100000
theorem u_key : ∃ d, Try.prog.underlying 185 = some d ∧ isKeyD d = true := ⟨(Try.prog.underlying 185).get rfl, by kernel_rfl, by kernel_rfl⟩
theorem u_map : Try.prog.underlying 181 = some (.map 185 25) := by kernel_rfl
theorem key_st : isStructT Try.prog 185 = true := by kernel_rfl
theorem key_fl : flatN Try.prog 20 185 = some [false, false] := by kernel_rfl
theorem key_z : zeroOf Try.prog 25 = some (.slice none 0 0) := by kernel_rfl
theorem key_ck (e : Bool) (a b : Int) : checkOK Try.prog e 185 (kV a b) = true := by cases e <;> kernel_rfl
theorem key_eq (a b a' b' : Int) : keyEq Try.prog 185 (kV a b) (kV a' b') = some (decide (a = a' ∧ b = b')) := by
  unfold keyEq
  rw [if_pos (show (noAddr (kV a b) && noAddr (kV a' b')) = true from rfl)]
  have := eq_flat (P := Try.prog) 20 185 _ key_fl 9980 [.int .i64 a, .int .i64 b] [.int .i64 a', .int .i64 b'] (decide (a = a' ∧ b = b')) (by
    by_cases h1 : a = a' <;> by_cases h2 : b = b' <;> simp [cellsEq, cellEq, h1, h2])
  unfold ofCells at this
  rw [if_pos key_st, if_pos key_st] at this
  exact this
theorem aFind_K (a b : Int) : ∀ (es : List KV) (i : Nat), aFind Try.prog 185 (kV a b) (es.map toE) i = some (findK es a b i)
  | [], _ => rfl
  | e :: es, i => by
    rw [List.map_cons, aFind]
    show (match keyEq Try.prog 185 (kV a b) (kV e.1 e.2.1) with | some true => _ | some false => _ | none => _) = _
    rw [key_eq, findK]
    by_cases h : a = e.1 ∧ b = e.2.1
    · rw [if_pos h, decide_eq_true h]
      rfl
    · rw [if_neg h, decide_eq_false h]
      exact aFind_K a b es (i + 1)
theorem look_K {h : AH} {r cc : Nat} {es : List KV} (hg : h.get r = some (.map (es.map toE) cc)) (a b : Int) : aLookup Try.prog h 181 (.map (some r)) (kV a b) false = some (((findK es a b 0).map (·.2)).getD (.slice none 0 0)) := by
  obtain ⟨d, hd, hk⟩ := u_key
  unfold aLookup
  rw [u_map]
  simp only [hd, mapOf, hg, key_z, hk, key_ck, aFind_K, Bool.and_self, if_true]
  cases findK es a b 0 with
  | none => rfl
  | some p => rfl
theorem upd_K {h : AH} {r cc : Nat} {es : List KV} (hg : h.get r = some (.map (es.map toE) cc)) (hw : h.wlim ≤ r) (a b : Int) (x : Value) : ∃ es' cc', aMapUpdate Try.prog h 181 (.map (some r)) (kV a b) x = some (h.put r (some (.map (es'.map toE) cc'))) ∧ ∀ a' b', (findK es' a' b' 0).map (·.2) = if a' = a ∧ b' = b then some x else (findK es a' b' 0).map (·.2) := by
  obtain ⟨d, hd, hk⟩ := u_key
  cases hf : findK es a b 0 with
  | none =>
    refine ⟨es ++ [(a, b, x, cc)], cc + 1, ?_, findK_app hf⟩
    unfold aMapUpdate
    rw [u_map]
    simp only [hd, hg, hk, key_ck, aFind_K, hf, Bool.and_self, decide_eq_true hw, if_true, List.map_append, List.map_cons, List.map_nil]
    rfl
  | some p =>
    obtain ⟨i, v⟩ := p
    obtain ⟨h1, e, h2, h3, h4, h5⟩ := findK_some hf
    rw [Nat.sub_zero] at h2
    have hs := findK_set (x := x) (n := e.2.2.2) hf
    rw [Nat.sub_zero] at hs
    refine ⟨es.set i (a, b, x, e.2.2.2), cc, ?_, hs⟩
    have hsame : keySame (kV e.1 e.2.1) (kV a b) = true := by
      unfold keySame
      rw [← h3, ← h4]
      have : Instr.sameBits 10000 (kV a b) (kV a b) = true := by
        show ((2 : Nat) == 2 && List.all [(Value.int .i64 a, Value.int .i64 a), (Value.int .i64 b, Value.int .i64 b)] fun p => Instr.sameBits 9999 p.1 p.2) = true
        simp [Instr.sameBits]
      rw [this]
      rfl
    have h6 : (es.map toE)[i]? = some (toE e) := by rw [List.getElem?_map, h2]; rfl
    unfold aMapUpdate
    rw [u_map]
    simp only [hd, hg, hk, key_ck, aFind_K, hf, Bool.and_self, decide_eq_true hw, if_true, h6, List.map_set]
    show (if keySame (kV e.1 e.2.1) (kV a b) = true then _ else none) = _
    rw [if_pos hsame]
    rfl
end Go.Proofs.Ytfmcdbcoljpomaa
