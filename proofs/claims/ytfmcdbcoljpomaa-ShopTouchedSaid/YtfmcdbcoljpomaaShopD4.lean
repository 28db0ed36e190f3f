/-
  Chapter 11, by names: shop.Taint, lifted.
-/
import Derived.Test.YtfmcdbcoljpomaaShopD3
set_option linter.unusedSimpArgs false
set_option linter.unusedVariables false
namespace Go.Vm
open Go Go.RowKit
theorem get_hq {wl k : Nat} {hid : List (Nat × Nat)} {L : List (Option AObj)} {o : AObj} (hf : freeOf hid k = true) (hL : (L[k]?).join = some o) : (Hq wl hid L).get k = some o := (free_get hf).trans hL
end Go.Vm
namespace Go.Proofs.Ytfmcdbcoljpomaa
open Go.RowKit Go.Vm
theorem taint_f {n c : Nat} {l : List Tc} {lots tools bad since : Int} (hl : l.length = n) (hb : n ≤ 1000000) (hc : c = openB ∨ n = 0 ∧ c = 0) (he : tcE l lots tools bad since = 0) {h : AH} {k sz : Nat} {op : Bool} (h0 : h.sees 0 = true) (hg : h.get k = some (.cells ⟨rows eC l, sz, op⟩)) :
    Fc Try.prog 20 [.slice (some ⟨k, 0, none⟩) n c, .int .i64 lots, .int .i64 tools, .int .i64 bad, .int .i64 since] h (.tuple #[.slice (some ⟨h.next, 0, none⟩) lots.toNat openB, .slice (some ⟨h.next + 1, 0, none⟩) tools.toNat openB, .int .i64 0]) ((h.new (.cells ⟨rows eN (tnG l lots.toNat tools.toNat bad.toNat since).1, 1, true⟩)).new (.cells ⟨rows eN (tnG l lots.toNat tools.toNat bad.toNat since).2, 1, true⟩)) :=
  Fc.lift1o (mk := fun ss => [] ++ ss ++ [.int .i64 lots, .int .i64 tools, .int .i64 bad, .int .i64 since]) (mkv := fun ss => .tuple ⟨[] ++ ss ++ [.int .i64 0]⟩) (os := [(lots.toNat, rows eN (tnG l lots.toNat tools.toNat bad.toNat since).1, 1), (tools.toNat, rows eN (tnG l lots.toNat tools.toNat bad.toNat since).2, 1)]) (by
    have := taint_c n c l lots tools bad since hl hb hc
    rw [he] at this
    unfold tkV tkO at this
    rw [if_pos rfl, if_pos rfl, Hq_news] at this
    exact this) (MkL.mid rfl rfl) (MkV.tup (MkL.mid rfl rfl)) (rows_no (f := eC) l) (fun o ho => by
    simp at ho
    rcases ho with rfl | rfl <;> exact rows_no (f := eN) _) h0 hg
theorem taintE_f {n c : Nat} {l : List Tc} {lots tools bad since : Int} (hl : l.length = n) (hb : n ≤ 1000000) (hc : c = openB ∨ n = 0 ∧ c = 0) (he : tcE l lots tools bad since ≠ 0) {h : AH} {k sz : Nat} {op : Bool} (h0 : h.sees 0 = true) (hg : h.get k = some (.cells ⟨rows eC l, sz, op⟩)) :
    Fc Try.prog 20 [.slice (some ⟨k, 0, none⟩) n c, .int .i64 lots, .int .i64 tools, .int .i64 bad, .int .i64 since] h (.tuple #[.slice none 0 0, .slice none 0 0, .int .i64 (tcE l lots tools bad since)]) h :=
  Fc.lift1o (mk := fun ss => [] ++ ss ++ [.int .i64 lots, .int .i64 tools, .int .i64 bad, .int .i64 since]) (mkv := fun _ => .tuple #[.slice none 0 0, .slice none 0 0, .int .i64 (tcE l lots tools bad since)]) (os := []) (by
    have := taint_c n c l lots tools bad since hl hb hc
    unfold tkV tkO at this
    rw [if_neg he, if_neg he, Hq_news] at this
    exact this) (MkL.mid rfl rfl) (MkV.const rfl) (rows_no (f := eC) l) (fun o ho => by cases ho) h0 hg
end Go.Proofs.Ytfmcdbcoljpomaa
