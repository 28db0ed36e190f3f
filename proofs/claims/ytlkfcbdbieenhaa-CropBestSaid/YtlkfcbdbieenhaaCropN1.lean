/-
  The law of chapter 7, by names: the contracts of what the laws call.
-/
import Derived.Test.YtlkfcbdbieenhaaMe
import Derived.Test.YtlkfcbdbieenhaaCropW3
import Derived.Test.YtlkfcbdbieenhaaCropB7
import Derived.Test.YtlkfcbdbieenhaaCropKv
import Derived.Test.YtlkfcbdbieenhaaCropBP
import Derived.KernelRfl
set_option linter.unusedSimpArgs false
set_option linter.unusedVariables false
namespace Go.Proofs.Ytlkfcbdbieenhaa
open Go.RowKit Go.Vm
set_option maxRecDepth 100000
theorem v_names : namesOk Try.prog = true := by kernel_rfl
theorem v_mixed : Try.prog.follows .mixedOrders = true := by kernel_rfl
theorem pok : POk Try.prog := ⟨v_mixed, v_names⟩
instance flII : FlatE eII 2 := ⟨fun _ => rfl, fun _ => rfl, fun _ => rfl⟩
theorem takeII {xs : List (Int × Int)} {i : Nat} (hi : i < xs.length) : takeC (rows eII xs) (i * 2) 2 = some [.int .i64 (nth xs i).1, .int .i64 (nth xs i).2] := rows_takeC (f := eII) hi

/-- Memory of a slice argument alone. -/
abbrev H1 (cs : List Value) : AH := Hp 2 [none, some (.cells ⟨cs, 0, false⟩)]
abbrev s1 (n c : Nat) : Value := .slice (some ⟨1, 0, none⟩) n c

theorem H1_new (cs xs : List Value) (sz : Nat) : Hp 2 [none, some (.cells ⟨cs, 0, false⟩), some (.cells ⟨xs, sz, true⟩)] = (H1 cs).new (.cells ⟨xs, sz, true⟩) := (Hq_new (L := [none, some (.cells ⟨cs, 0, false⟩)]) _).symm
theorem H1_get (cs : List Value) : (H1 cs).get 1 = some (.cells ⟨cs, 0, false⟩) := Hp_get 1
theorem lift_plain {P : Program} {f n : Nat} {cs : List Value} {v s : Value} {more : List Value} {h : AH} (F : ∀ c, Fc P f (s1 n c :: more) (H1 cs) v (H1 cs)) (hno : noAddrL cs = true) (hm : noAddrL more = true) (hv : noAddr v = true) (h0 : h.sees 0 = true) (r : Rd h s n cs) : Fc P f (s :: more) h v h := by
  obtain ⟨p, c, rfl, hr, hc⟩ := r
  refine Fc.frameL (os := []) (F c) [(0, 0, false), p] rfl ⟨fr_none h0, fr_rd rfl hr hno, trivial⟩ ?_ (okM_noAddr _ _ _ hv) (fun o ho => by cases ho) ?_ (mw_noAddr _ _ hv) rfl
  · simp only [okML]
    exact ⟨okM_sl (p := p) rfl (by simp) hr hc, okML_noAddr _ _ _ hm⟩
  · simp only [mwL]
    rw [mw_sl (p := p) rfl, mwL_noAddr _ _ hm]

theorem lift_own {P : Program} {f n m : Nat} {cs xs : List Value} {sz : Nat} {s : Value} {mk : Value → Value} {more : List Value} {h : AH} (F : ∀ c, Fc P f (s1 n c :: more) (H1 cs) (mk (.slice (some ⟨2, 0, none⟩) m openB)) (Hp 2 [none, some (.cells ⟨cs, 0, false⟩), some (.cells ⟨xs, sz, true⟩)])) (hno : noAddrL cs = true) (hx : noAddrL xs = true) (hm : noAddrL more = true)
    (hmw : ∀ ψ s, mw ψ (mk s) = mk (mw ψ s)) (hok : ∀ ξ B s, okM ξ B s → okM ξ B (mk s)) (h0 : h.sees 0 = true) (r : Rd h s n cs) : Fc P f (s :: more) h (mk (.slice (some ⟨h.next, 0, none⟩) m openB)) (h.new (.cells ⟨xs, sz, true⟩)) := by
  obtain ⟨p, c, rfl, hr, hc⟩ := r
  have e2 : ∀ ψ : Nat → Nat × Nat × Bool, psi1 ψ 2 h.next 2 = (h.next, 0, false) := fun ψ => by simp [psi1]
  refine Fc.frameL (os := [.cells ⟨xs, sz, true⟩]) (F c) [(0, 0, false), p] rfl ⟨fr_none h0, fr_rd rfl hr hno, trivial⟩ ?_ (hok _ _ _ ?_) (fun o ho => ?_) ?_ ?_ ?_
  · simp only [okML]
    exact ⟨okM_sl (p := p) rfl (by simp) hr hc, okML_noAddr _ _ _ hm⟩
  · simp only [okM, xiP]
    refine ⟨by simp, ?_⟩
    show okS (if (psi1 _ 2 h.next 2).2.2 = true then _ else _) _ _
    rw [e2]
    trivial
  · simp only [List.mem_singleton] at ho
    subst ho
    exact okML_noAddr _ _ _ hx
  · simp only [mwL]
    rw [mw_sl (p := p) rfl, mwL_noAddr _ _ hm]
  · rw [hmw]
    congr 1
  · simp only [List.map_cons, List.map_nil, mwO, mwL_noAddr _ _ hx]
    rfl

theorem own_c (n c : Nat) (l : List St) (hn : l.length = n) (hb : n ≤ 1000000) : Fc Try.prog 16 [s1 n c] (H1 (rows eII l)) (.slice (some ⟨2, 0, none⟩) n openB) (Hp 2 [none, some (.cells ⟨rows eII l, 0, false⟩), some (.cells ⟨rows eII l, 2, true⟩)]) := by
  rw [H1_new]
  refine Fc.ofOwn (h := H1 (rows eII l)) (mk := id) (e := 55) (sz := 2) (xs := rows eII l) (rows_no (f := eII) l) (fun _ _ _ => rfl) (fun _ _ _ h => h) ⟨_, _, Try.func16, rfl⟩ fun w0 φ κ w R ha => ?_
  obtain ⟨A, cap, e1, hs⟩ := Rel.sl (enc := eII) (xs := l) R (k := 1) (n := n) (cp := c) (H1_get _) (by omega) (ha _ (by simp)) hn
  simp only [List.map_cons, List.map_nil, e1]
  refine (own_any A n cap w.heap.size l w hs (Nat.le_refl _) hb).mono ?_
  rintro en w' ⟨A', n', cap', rfl, ho, hbl⟩
  have hn' := ho.1
  obtain rfl : n' = n := by omega
  exact ⟨A', cap', rfl, ho.2, hbl⟩
theorem own_f (n : Nat) (l : List St) (hn : l.length = n) (hb : n ≤ 1000000) {h : AH} {s : Value} (h0 : h.sees 0 = true) (r : Rd h s n (rows eII l)) : Fc Try.prog 16 [s] h (.slice (some ⟨h.next, 0, none⟩) n openB) (h.new (.cells ⟨rows eII l, 2, true⟩)) :=
  lift_own (mk := id) (fun c => own_c n c l hn hb) (rows_no (f := eII) l) (rows_no (f := eII) l) rfl (fun _ _ => rfl) (fun _ _ _ h => h) h0 r

theorem lengthOf_f (n : Nat) (l : List St) (hn : l.length = n) (hb : n ≤ 1000000) {h : AH} {s : Value} (h0 : h.sees 0 = true) (r : Rd h s n (rows eII l)) : Fc Try.prog 21 [s] h (.int .i64 (lenO l)) h := by
  refine lift_plain (fun c => ?_) (rows_no (f := eII) l) rfl rfl h0 r
  refine Fc.ofPlain rfl ⟨_, _, Try.func21, rfl⟩ fun w0 φ κ w R ha => ?_
  obtain ⟨A, cap, e1, hs⟩ := Rel.sl (enc := eII) (xs := l) R (k := 1) (n := n) (cp := c) (H1_get _) (by omega) (ha _ (by simp)) hn
  simp only [List.map_cons, List.map_nil, e1]
  refine (lengthOf_any A n cap w.heap.size l w hs hb).mono ?_
  rintro en w' ⟨rfl, rfl⟩
  exact ⟨rfl, Below.refl _ _⟩

theorem known_f {h : AH} : Fc Try.prog 14 [] h (.bool true) h :=
  Fc.ofPlain rfl ⟨_, _, Try.func14, rfl⟩ fun w0 φ κ w R ha => known_any w

abbrev sawV (s1 s2 s3 : Int) : Value := .agg #[.int .i64 s1, .int .i64 s2, .int .i64 s3]
theorem best_f (n : Nat) (l : List St) (k1 k2 k3 : Int) (hn : l.length = n) (hb : n ≤ 1000000) {h : AH} {s : Value} (h0 : h.sees 0 = true) (r : Rd h s n (rows eII l)) :
    Fc Try.prog 15 [s, sawV k1 k2 k3] h (.tuple #[.slice (some ⟨h.next, 0, none⟩) (bestL l k1 k2 k3).length openB, .int .i64 (bestT l k1 k2 k3), .int .i64 (checkF l (k1, k2, k3))]) (h.new (.cells ⟨rows eII (bestL l k1 k2 k3), 2, true⟩)) := by
  refine lift_own (mk := fun s => .tuple #[s, .int .i64 (bestT l k1 k2 k3), .int .i64 (checkF l (k1, k2, k3))]) (fun c => ?_) (rows_no (f := eII) l) (rows_no (f := eII) _) rfl (fun _ _ => rfl) (fun _ _ _ h => ⟨h, trivial, trivial, trivial⟩) h0 r
  rw [H1_new]
  refine Fc.ofOwn (h := H1 (rows eII l)) (mk := fun s => .tuple #[s, .int .i64 (bestT l k1 k2 k3), .int .i64 (checkF l (k1, k2, k3))]) (e := 49) (sz := 2) (xs := rows eII (bestL l k1 k2 k3)) (rows_no (f := eII) _) (fun _ _ _ => rfl) (fun _ _ _ h => ⟨h, trivial, trivial, trivial⟩) ⟨_, _, Try.func15, rfl⟩ fun w0 φ κ w R ha => ?_
  obtain ⟨A, cap, e1, hs⟩ := Rel.sl (enc := eII) (xs := l) R (k := 1) (n := n) (cp := c) (H1_get _) (by omega) (ha _ (by simp)) hn
  have e2 : Vm.ren φ κ (sawV k1 k2 k3) = sawV k1 k2 k3 := ren_noAddr _ _ _ rfl
  simp only [List.map_cons, List.map_nil, e1, e2]
  refine (best_any A n cap w.heap.size l k1 k2 k3 w hs (Nat.le_refl _) hb).mono ?_
  rintro en w' ⟨A', n', cap', rfl, ho, _, hbl⟩
  obtain rfl := ho.1
  exact ⟨A', cap', rfl, ho.2, hbl⟩
end Go.Proofs.Ytlkfcbdbieenhaa
