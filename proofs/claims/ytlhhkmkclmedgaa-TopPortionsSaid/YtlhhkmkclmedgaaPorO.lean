/-
  Chapter 8 at the top: the law TopPortions, by names.
-/
import Derived.Test.YtlhhkmkclmedgaaPorN
set_option linter.unusedSimpArgs false
set_option linter.unusedVariables false
namespace Go.Vm
theorem MkL.pagg {mk : List Value → List Value} (h : MkL mk) {pre post : List Value} (h1 : noAddrL pre = true) (hp : noAddrL post = true) : MkL (fun ss => pre ++ .agg ⟨mk ss⟩ :: post) :=
  ⟨fun ψ ss => by rw [mwL_app, mwL_noAddr _ _ h1]; simp only [mwL, Vm.mw, mwA, h.mw, mwL_noAddr _ _ hp], fun ξ B ss hs => okML_app.2 ⟨okML_noAddr _ _ _ h1, h.ok ξ B ss hs, okML_noAddr _ _ _ hp⟩⟩
end Go.Vm
namespace Go.Proofs.Ytlhhkmkclmedgaa
open Go.RowKit Go.Vm
set_option maxRecDepth 100000

/- plain: each second share -/
theorem pick_nth (r : Nat) (hr : r < 2) (x : Nat → Int) : ∀ j, (pickF r x j).length = (j + 1 - r) / 2 ∧ ∀ i, 2 * i + r < j → nth (pickF r x j) i = x (2 * i + r)
  | 0 => ⟨by simp [pickF]; omega, fun i h => by omega⟩
  | j + 1 => by
    obtain ⟨h1, h2⟩ := pick_nth r hr x j
    rw [pickF]
    by_cases hj : j % 2 = r
    · rw [if_pos hj]
      refine ⟨by rw [List.length_append, h1]; simp; omega, fun i hi => ?_⟩
      unfold nth at h2 ⊢
      rw [List.getD_eq_getElem?_getD]
      by_cases e : 2 * i + r < j
      · rw [List.getElem?_append_left (by omega)]
        have := h2 i e
        rw [List.getD_eq_getElem?_getD] at this
        exact this
      · rw [List.getElem?_append_right (by omega)]
        have : i - (pickF r x j).length = 0 := by omega
        rw [this]
        have : 2 * i + r = j := by omega
        rw [this]
        rfl
    · rw [if_neg hj, List.append_nil]
      exact ⟨by omega, fun i hi => h2 i (by omega)⟩
theorem iv_row {K S : List Int} {t : Int} {i : Nat} (h : i < S.length) : rows eI (lnF t K S i) ++ [Value.int .i64 (nth K i)] ++ [Value.int .i64 (nth S i)] = rows eI (lnF t K S (i + 1)) := by
  unfold lnF
  rw [ivF_at h, ← List.cons_append, ← List.cons_append, rows_append, rows_append]
  rfl
theorem iv_row1 {K S : List Int} {t : Int} {i : Nat} (h : S.length ≤ i) : rows eI (lnF t K S i) ++ [Value.int .i64 (nth K i)] = rows eI (lnF t K S (i + 1)) := by
  unfold lnF
  rw [ivF_end h, ← List.cons_append, rows_append]
  rfl

theorem followedE_f {c : Wb} {len : Int} {t : List Int} {nt : Nat} (hV : ckE c len ≠ 0) {h : AH} {s : Value} (h0 : h.sees 0 = true) (r : Rd h s nt (rows eY t)) :
    Fc Try.prog 7 [cutV c s, .int .i64 len] h (.tuple #[.agg #[.slice none 0 0, .slice none 0 0, .int .i64 0, .int .i64 0], .bool false]) h :=
  Fc.lift1 (mk := fun ss => .agg ⟨[.int .i64 c.dl, .int .i64 c.dh, .int .i64 c.wl, .int .i64 c.wh, .int .i64 c.le, .int .i64 c.p, .int .i64 c.g, .int .i64 c.st, .int .i64 c.sl, .int .i64 c.sh] ++ ss ++ []⟩ :: [.int .i64 len]) (mkv := fun _ => .tuple #[.agg #[.slice none 0 0, .slice none 0 0, .int .i64 0, .int .i64 0], .bool false]) (os := []) (fun ct => followedE_c c len t nt ct hV) (MkL.agg1 (MkL.mid rfl rfl) rfl) (MkV.const rfl) (rows_no (f := eY) t) (fun o ho => by cases ho) h0 r
theorem followed_f {c : Wb} {len : Int} {t : List Int} {nt n : Nat} (hnt : t.length = nt) (ht : ∀ x ∈ t, 0 ≤ x ∧ x ≤ 255) (V : Vd c len) (hV : ckE c len = 0) (hn : usF c len = n) {h : AH} {s : Value} (h0 : h.sees 0 = true) (r : Rd h s nt (rows eY t)) :
    Fc Try.prog 7 [cutV c s, .int .i64 len] h (.tuple #[ptV h.next (h.next + 1) (SF c len (d0F c t) (wsF c t n) (ssF c t n) n).length n (min c.st len) (restF c len (d0F c t) (wsF c t n) (ssF c t n) n), .bool true])
      (h.news [.cells ⟨rows eI (SF c len (d0F c t) (wsF c t n) (ssF c t n) n), 1, true⟩, .cells ⟨rows eI (KF c len (d0F c t) (wsF c t n) (ssF c t n) n), 1, true⟩]) :=
  Fc.lift1 (mk := fun ss => .agg ⟨[.int .i64 c.dl, .int .i64 c.dh, .int .i64 c.wl, .int .i64 c.wh, .int .i64 c.le, .int .i64 c.p, .int .i64 c.g, .int .i64 c.st, .int .i64 c.sl, .int .i64 c.sh] ++ ss ++ []⟩ :: [.int .i64 len]) (mkv := fun ss => .tuple ⟨.agg ⟨ss ++ [.int .i64 (min c.st len), .int .i64 (restF c len (d0F c t) (wsF c t n) (ssF c t n) n)]⟩ :: [.bool true]⟩) (os := [((SF c len (d0F c t) (wsF c t n) (ssF c t n) n).length, rows eI (SF c len (d0F c t) (wsF c t n) (ssF c t n) n), 1), (n, rows eI (KF c len (d0F c t) (wsF c t n) (ssF c t n) n), 1)])
    (fun ct => by
      have := followed_c c len t nt ct n hnt ht V hV hn
      rw [Hq_news] at this
      exact this) (MkL.agg1 (MkL.mid rfl rfl) rfl) (MkV.tup (MkL.agg1 (MkL.app rfl) rfl)) (rows_no (f := eY) t) (fun o ho => by
      simp at ho
      rcases ho with rfl | rfl <;> exact rows_no (f := eI) _) h0 r
theorem divideE_f {n : Int} {K S : List Int} {t u : Int} {k s : Nat} (hn : inB n 0 1000000000000000 = false) {h : AH} {a b za zb : Nat} {oa ob : Bool} (h0 : h.sees 0 = true) (ha : h.get a = some (.cells ⟨rows eI S, za, oa⟩)) (hb : h.get b = some (.cells ⟨rows eI K, zb, ob⟩)) :
    Fc Try.prog 9 [.int .i64 n, ptV a b s k t u] h (.tuple #[.int .i64 0, .slice none 0 0, .slice none 0 0, .int .i64 0, .int .i64 3]) h :=
  Fc.lift2o (mk := fun ss => [.int .i64 n] ++ .agg ⟨ss ++ [.int .i64 t, .int .i64 u]⟩ :: []) (mkv := fun _ => .tuple #[.int .i64 0, .slice none 0 0, .slice none 0 0, .int .i64 0, .int .i64 3]) (os := []) (divideE_c n K S t u k s hn) (MkL.pagg (MkL.app rfl) rfl rfl) (MkV.const rfl) (rows_no (f := eI) S) (rows_no (f := eI) K) (fun o ho => by cases ho) h0 ha hb
theorem divide_f {n : Int} {K S : List Int} {t u : Int} {k s : Nat} (hk : K.length = k) (hs : S.length = s) (V : PV S K t u) (hn : inB n 0 1000000000000000 = true) {h : AH} {a b za zb : Nat} {oa ob : Bool} (h0 : h.sees 0 = true) (ha : h.get a = some (.cells ⟨rows eI S, za, oa⟩)) (hb : h.get b = some (.cells ⟨rows eI K, zb, ob⟩)) :
    Fc Try.prog 9 [.int .i64 n, ptV a b s k t u] h (dvV h.next n (lensF t u K S)) (h.news (dvO n (lensF t u K S))) :=
  Fc.lift2o (mk := fun ss => [.int .i64 n] ++ .agg ⟨ss ++ [.int .i64 t, .int .i64 u]⟩ :: []) (mkv := fun ss => .tuple ⟨[.int .i64 (nth (shF n (lensF t u K S) (lensF t u K S).length) 0)] ++ ss ++ [.int .i64 (nth (shF n (lensF t u K S) (lensF t u K S).length) ((lensF t u K S).length - 1)), .int .i64 0]⟩)
    (os := [((pickF 0 (xF n (lensF t u K S)) ((lensF t u K S).length - 2)).length, rows eI (pickF 0 (xF n (lensF t u K S)) ((lensF t u K S).length - 2)), 1), ((pickF 1 (xF n (lensF t u K S)) ((lensF t u K S).length - 2)).length, rows eI (pickF 1 (xF n (lensF t u K S)) ((lensF t u K S).length - 2)), 1)])
    (by
      have := divide_c n K S t u k s hk hs V hn
      rw [Hq_news] at this
      exact this) (MkL.pagg (MkL.app rfl) rfl rfl) (MkV.tup (MkL.mid rfl rfl)) (rows_no (f := eI) S) (rows_no (f := eI) K) (fun o ho => by
      simp at ho
      rcases ho with rfl | rfl <;> exact rows_no (f := eI) _) h0 ha hb
end Go.Proofs.Ytlhhkmkclmedgaa
