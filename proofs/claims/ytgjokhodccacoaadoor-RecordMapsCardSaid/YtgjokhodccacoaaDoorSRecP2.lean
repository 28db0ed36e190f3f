import Derived.Test.YtgjokhodccacoaaDoorSRecP1
set_option linter.unusedSimpArgs false
set_option linter.unusedVariables false
namespace Go.Vm
open Go Go.RowKit
theorem Fc.liftN {P : Program} {f : Nat} {args : List Value} {os : List Ns1} {mkv : List Value → Value}
    (F : Fc P f args (Hp 1 [none]) (mkv (newsAt 1 os)) (Hp 1 ([none] ++ (nsO os).map some))) (ha : noAddrL args = true) (hmv : MkV mkv) (hos : ∀ o ∈ os, noAddrL o.2.1 = true) {h : AH} (h0 : h.sees 0 = true) :
    Fc P f args h (mkv (newsAt h.next os)) (h.news (nsO os)) := by
 have := Fc.liftP (cs := []) (ps := []) (caps := []) (os := os) (mk := fun ss => args ++ ss ++ []) (mkv := mkv) (by
  show Fc P f (args ++ slicesAt 1 [] [] ++ []) _ _ _
  simp only [slicesAt, List.append_nil]
  exact F) (MkL.mid ha rfl) hmv (fun p hp => by cases hp) hos h0 trivial
 simp only [placesV, List.append_nil] at this
 exact this
end Go.Vm
namespace Go.Proofs.YtgjokhodccacoaaDoor
open Go.RowKit Go.Vm
set_option maxRecDepth 100000
theorem mvP (e : Int) : MvV fun s => .tuple #[s, .int .i64 e] := ⟨fun _ _ _ => rfl, fun _ _ _ h => ⟨h, trivial, trivial⟩⟩
theorem groups_len {N : Nat} (h : N < 9223372036854775808) : (groups N).length ≤ 9 ∧ 0 < (groups N).length := by
 have key : ∀ k m acc, m ≤ k → GrJ N (m, acc) → (groups N).length ≤ 9 ∧ 0 < (groups N).length := by
  intro k
  induction k with
  | zero =>
   intro m acc hk J
   obtain rfl : m = 0 := by omega
   have := gr_end J
   obtain ⟨j1, j2, j3, _⟩ := J
   rw [← this]
   exact ⟨j2, j3⟩
  | succ k ih =>
   intro m acc hk J
   by_cases h0 : m = 0
   ·subst h0
    have := gr_end J
    obtain ⟨j1, j2, j3, _⟩ := J
    rw [← this]
    exact ⟨j2, j3⟩
   ·exact ih _ _ (by omega) (gr_step J h0).1
 exact key _ _ _ (Nat.le_refl _) (gr_begin h)
def ir92_r0 : IC := .reg [⟨some 2, none, false, .mv (.k (.slice none 0 0))⟩] (some [0])
def ir92_r1 : IC := .reg [⟨some 4, none, false, .mv (.t 0)⟩,
 ⟨some 5, none, false, .div .rem (.t 4) (.k (.int .i64 128))⟩,
 ⟨some 6, none, false, .conv .u8 (.t 5)⟩,
 ⟨some 7, none, false, .bsl 1 1 [(.int .u8 0)] [(0, (.t 6))]⟩,
 ⟨some 3, none, false, .mv (.t 7)⟩] (some [0, 3])
def ir92_r2 : IC := .reg [⟨some 8, none, false, .mv (.t 0)⟩,
 ⟨some 9, none, false, .div .quo (.t 8) (.k (.int .i64 128))⟩,
 ⟨some 0, none, false, .mv (.t 9)⟩] (some [0, 3])
def ir92_r3 : IC := .reg [⟨some 10, none, false, .mv (.t 0)⟩,
 ⟨some 11, none, false, .cmp .gtr (.t 10) (.k (.int .i64 0))⟩] (some [0, 3, 11])
def ir92_1 : IC := .cond (.t 11) .skip (.exit 0)
def ir92_2 : IC := .seq ir92_r3 ir92_1
def ir92_r5 : IC := .reg [⟨some 14, none, false, .mv (.t 0)⟩,
 ⟨some 15, none, false, .div .rem (.t 14) (.k (.int .i64 128))⟩,
 ⟨some 16, none, false, .ar .add (.k (.int .i64 128)) (.t 15)⟩,
 ⟨some 17, none, false, .conv .u8 (.t 16)⟩,
 ⟨some 18, none, false, .bsl 1 1 [(.int .u8 0)] [(0, (.t 17))]⟩,
 ⟨some 19, none, false, .mv (.t 3)⟩,
 ⟨some 20, none, false, .app 1 1 (.t 18) (.t 19)⟩,
 ⟨some 3, none, false, .mv (.t 20)⟩] (some [0, 3])
def ir92_3 : IC := .block 1 ir92_r5
def ir92_r4 : IC := .reg [⟨some 12, none, false, .mv (.t 0)⟩,
 ⟨some 13, none, false, .div .quo (.t 12) (.k (.int .i64 128))⟩,
 ⟨some 0, none, false, .mv (.t 13)⟩] (some [0, 3])
def ir92_4 : IC := .seq ir92_3 ir92_r4
def ir92_5 : IC := .seq ir92_2 ir92_4
def ir92_6 : IC := .loop ir92_5
def ir92_7 : IC := .block 0 ir92_6
def ir92_8 : IC := .seq ir92_r2 ir92_7
def ir92_r6 : IC := .reg [⟨some 21, none, false, .mv (.t 3)⟩,
 ⟨some 2, none, false, .mv (.t 21)⟩] (some [2])
def ir92_9 : IC := .seq ir92_r6 .ret
def ir92_10 : IC := .seq ir92_8 ir92_9
def ir92_11 : IC := .seq ir92_r1 ir92_10
def ir92_12 : IC := .seq ir92_r0 ir92_11
def ir92 : IC := ir92_12
theorem fn92 : FnIs Tryd.prog 92 ir92 22 [.tmp 2] := ⟨Tryd.f92, Tryd.f92.body.getD .skip, Tryd.func92, by kernel_rfl, by kernel_rfl, by kernel_rfl, by kernel_rfl⟩
end Go.Proofs.YtgjokhodccacoaaDoor
