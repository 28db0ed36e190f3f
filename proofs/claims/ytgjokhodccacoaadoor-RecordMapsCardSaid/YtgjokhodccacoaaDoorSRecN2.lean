import Derived.Test.YtgjokhodccacoaaDoorSRecN1
set_option linter.unusedSimpArgs false
set_option linter.unusedVariables false
namespace Go.Vm
open Go Go.RowKit
theorem Fc.drop {P : Program} {f : Nat} {args : List Value} {h h1 : AH} {v : Value} (F : Fc P f args h v h1) (hid : h.hid = []) (hw : h.wlim = h.next) (hv : noAddr v = true) : Fc P f args h v h :=
 Fc.gc (os := []) F hid hw [] [] rfl List.nodup_nil (by simp) (by simp) (by rw [mv_noAddr _ _ _ hv]) (okM_noAddr _ _ _ hv) (fun i o2 h => by simp at h)
theorem DSeqQ_n {P : Program} {nt b : Nat} {y : DC} {Q : Option (Nat × List Value) → AEx → Fr → AH → Prop} {l : Fr} {h : AH} (T : DTri P nt b y l h Q) : DSeqQ P nt b y Q .normal l [] h := ⟨rfl, T⟩
end Go.Vm
namespace Go.Proofs.YtgjokhodccacoaaDoor
open Go.RowKit Go.Vm
set_option maxRecDepth 100000
section
variable {w : Bool} {s : Nat} {l : Fr} {h : AH} {K : Value → AH → Prop}
end
section
variable {wl ks o n c : Nat} {L : List (Option AObj)} {at_ : Int}
end
abbrev bx (v : Int) : Option AObj := some (.cells ⟨[.int .i64 v], 1, false⟩)
section
variable {src : Option AObj} {T : List (Option AObj)}
end
theorem Th.mono {g : Nat} {cap : List Value} {v : Value} {h : AH} {Z Z' : AH → Prop} (T : Th Tryd.prog g cap v h Z) (hz : ∀ h2, Z h2 → Z' h2) : Th Tryd.prog g cap v h Z' :=
 ⟨T.body, fun w0 φ κ w R ha u u' hu => (T.run w0 φ κ w R ha u u' hu).mono (by
  rintro e u2 w' ⟨q1, q2, h2, φ', κ', q3, q4⟩
  exact ⟨q1, q2, h2, φ', κ', hz _ q3, q4⟩)⟩
abbrev srB (xs : List Int) : Option AObj := some (.cells ⟨rows eB xs, 0, false⟩)
theorem bys_rows (xs : List Int) : Bys (rows eB xs) 0 xs := fun i hi => by rw [Nat.zero_add]; exact rows_get1 (f := eB) hi
end Go.Proofs.YtgjokhodccacoaaDoor
