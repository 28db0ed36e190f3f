/-
  Chapter 4 at the top: between, accepted, runs; newChart in any memory.
-/
import Derived.Test.YteddklolpcpjaaaGrG
set_option linter.unusedSimpArgs false
set_option linter.unusedVariables false
namespace Go.Vm
open Go Go.RowKit
/-- As Fc.liftP, with new objects of any kind. -/
theorem Fc.liftPO {P : Program} {f : Nat} {cs : List Rs1} {os os' : List AObj} {mk : List Value → List Value} {v v' : Value} {ps : List (Nat × Nat × Bool)} {caps : List Nat}
    (F : Fc P f (mk (slicesAt 1 cs caps)) (Hp (cs.length + 1) (none :: rsL cs)) v (Hp (cs.length + 1) ((none :: rsL cs) ++ os.map some)))
    (hmk : MkL mk) (hno : ∀ p ∈ cs, noAddrL p.2 = true) (hos : os.all plainO = true) {h : AH} (h0 : h.sees 0 = true) (hp : PlOK h ps cs caps)
    (hv : okM (xiP (psi1 (psL ((0, 0, false) :: ps)) (cs.length + 1) h.next)) (cs.length + 1 + os.length) v)
    (hos2 : ∀ o ∈ os, okMO (xiP (psi1 (psL ((0, 0, false) :: ps)) (cs.length + 1) h.next)) (cs.length + 1 + os.length) o)
    (e2 : mw (psi1 (psL ((0, 0, false) :: ps)) (cs.length + 1) h.next) v = v') (e3 : os.map (mwO (psi1 (psL ((0, 0, false) :: ps)) (cs.length + 1) h.next)) = os') :
    Fc P f (mk (placesV ps cs caps)) h v' (h.news os') := by
  obtain ⟨l1, l2⟩ := hp.len
  have hlen : (none :: rsL cs).length = cs.length + 1 := by simp [rsL]
  obtain ⟨q1, q2, q3⟩ := PlOK.fr (ψ := psL ((0, 0, false) :: ps)) (B := cs.length + 1) 1 hp hno (fun j p hj => by unfold psL; rw [show 1 + j = j + 1 from by omega, List.getElem?_cons_succ, hj]; rfl) (by omega)
  have F' := F
  rw [← hlen] at F' hv hos2 e2 e3
  refine Fc.frameL F' ((0, 0, false) :: ps) hos ?_ ?_ hv hos2 ?_ e2 (by rw [e3])
  · rw [hlen]
    exact ⟨fr_none h0, q1⟩
  · rw [hlen]
    exact hmk.ok _ _ _ q3
  · rw [hmk.mw, q2]
end Go.Vm
namespace Go.Proofs.Yteddklolpcpjaaa
open Go.RowKit Go.Vm
set_option maxRecDepth 1000000
theorem mwL_chC (ψ : Nat → Nat × Nat × Bool) (ps : List Int) (u v : Value) : mwL ψ (chC ps u v) = chC ps (mw ψ u) (mw ψ v) := by
  unfold chC
  rw [mwL_app, mwL_rows]; rfl
section
variable {T : List St} {S : List Sm} {X : List (Int × Int)} {nT nS nX N : Nat} {ps : List Int}
theorem chart_f {h : AH} {k1 k2 k3 z1 z2 z3 : Nat} {o1 o2 o3 : Bool} (hT : T.length = nT) (hS : S.length = nS) (hX : X.length = nX) (G : GoodC ps T S X N) (h0 : h.sees 0 = true) (g1 : h.get k1 = some (.cells ⟨rows eT T, z1, o1⟩)) (g2 : h.get k2 = some (.cells ⟨rows eM S, z2, o2⟩)) (g3 : h.get k3 = some (.cells ⟨rows eII X, z3, o3⟩)) :
    Fc Try.prog 20 [.agg ⟨rows eI ps⟩, ruV (sO k1 nT) (sO k2 nS) (sO k3 nX) N] h (.tuple #[pt h.next, I6 0])
      (h.news [.cells ⟨chC ps (slN (h.next + 1) (N + 1)) (slN (h.next + 2) (N + 1)), 1, false⟩, .cells ⟨rows eK (bL (zF S N) (nth ps 110) (nth ps 111) N), 3, false⟩, .cells ⟨rows eK (fL (zF S N) (nth ps 110) (nth ps 111) N), 3, false⟩]) := by
  refine Fc.liftPO (mk := fun ss => .agg ⟨rows eI ps⟩ :: (.agg ⟨ss.take 1 ++ [I6 N] ++ ss.drop 1⟩ :: [])) (cs := [(nT, rows eT T), (nS, rows eM S), (nX, rows eII X)]) (caps := [openB, openB, openB]) (ps := [(k1, 0, false), (k2, 0, false), (k3, 0, false)])
    (os := [.cells ⟨chC ps (slN 5 (N + 1)) (slN 6 (N + 1)), 1, false⟩, .cells ⟨rows eK (bL (zF S N) (nth ps 110) (nth ps 111) N), 3, false⟩, .cells ⟨rows eK (fL (zF S N) (nth ps 110) (nth ps 111) N), 3, false⟩]) (v := .tuple #[pt 4, I6 0])
    (chart_c hT hS hX G) (MkL.cons (rows_no (f := eI) ps) (MkL.agg1 (MkL.split rfl) rfl)) no3 rfl h0 (pl3 g1 g2 g3) ?_ ?_ ?_ ?_
  · exact ⟨⟨show 4 < 7 by decide, trivial⟩, trivial, trivial⟩
  · intro o ho
    simp only [List.mem_cons, List.not_mem_nil, or_false] at ho
    rcases ho with rfl | rfl | rfl
    · show okML _ _ (chC ps _ _)
      rw [chC_ok]
      exact ⟨⟨show 5 < 7 by decide, trivial⟩, ⟨show 6 < 7 by decide, trivial⟩⟩
    · exact okML_rows _ _
    · exact okML_rows _ _
  · rfl
  · simp only [List.map_cons, List.map_nil, mwO, mwL_chC, mwL_rows]
    rfl
end
abbrev chM (ps : List Int) (n : Nat) (B F : List Kn) : List (Option AObj) := [none, chO ps (slN 2 n) (slN 3 n), some (.cells ⟨rows eK B, 0, false⟩), some (.cells ⟨rows eK F, 0, false⟩)]
/- (*boule/pull.chart).between · slots 88 · names 0:c 1:t 2:c 3:t 5:a 6:b · results [4] -/
def ir24_r0 : IC := .reg [⟨some 4, none, false, .alloc [(.int .i64 0), (.int .i64 0), (.bool false)]⟩] (some [0, 1, 4])
def ir24_r1 : IC := .draw [(⟨some 7, none, false, .mv (.t 0)⟩, false, 0, 0),
  (⟨some 8, none, false, .nilck (.t 7)⟩, false, 1, 0),
  (⟨some 9, none, false, .fad 117 (.t 8)⟩, false, 3, 0),
  (⟨some 10, none, false, .ldc (.t 9)⟩, false, 7, 1),
  (⟨some 11, none, false, .mv (.t 1)⟩, false, 0, 0),
  (⟨some 12, none, false, .iad 3 (.t 10) (.t 11)⟩, false, 31, 0),
  (⟨some 13, none, false, .lda 3 (.t 12)⟩, false, 63, 1),
  (⟨some 14, none, false, .mv (.t 0)⟩, false, 0, 0),
  (⟨some 15, none, false, .nilck (.t 14)⟩, false, 128, 0),
  (⟨some 16, none, false, .fad 118 (.t 15)⟩, false, 384, 0),
  (⟨some 17, none, false, .ldc (.t 16)⟩, false, 896, 64),
  (⟨some 18, none, false, .mv (.t 1)⟩, false, 0, 0),
  (⟨some 19, none, false, .ar .add (.t 18) (.k (.int .i64 1))⟩, false, 2048, 0),
  (⟨some 20, none, false, .iad 3 (.t 17) (.t 19)⟩, false, 8064, 0),
  (⟨some 21, none, false, .lda 3 (.t 20)⟩, false, 16256, 64),
  (⟨some 5, none, false, .alloc [(.int .i64 0), (.int .i64 0), (.bool false)]⟩, false, 0, 16320),
  (⟨some 6, none, false, .alloc [(.int .i64 0), (.int .i64 0), (.bool false)]⟩, false, 0, 16320),
  (⟨none, none, false, .st 3 (.t 5) (.t 13)⟩, false, 98431, 16257),
  (⟨none, none, false, .st 3 (.t 6) (.t 21)⟩, true, 262143, 0)] (some [0, 4, 5, 6])
def ir24_r2 : IC := .reg [⟨some 23, none, false, .fad 2 (.t 5)⟩,
  ⟨some 24, none, false, .ldc (.t 23)⟩,
  ⟨some 25, none, false, .not (.t 24)⟩,
  ⟨some 22, none, false, .mv (.t 25)⟩] (some [0, 4, 5, 6, 22])
def ir24_r3 : IC := .draw [(⟨some 26, none, false, .lda 3 (.t 6)⟩, false, 0, 1),
  (⟨some 27, none, false, .mv (.t 0)⟩, false, 0, 0),
  (⟨some 28, none, false, .nilck (.t 27)⟩, false, 2, 0),
  (⟨some 29, none, false, .fad 0 (.t 28)⟩, false, 6, 0),
  (⟨some 30, none, false, .fad 111 (.t 29)⟩, false, 14, 0),
  (⟨some 31, none, false, .ldc (.t 30)⟩, false, 30, 1),
  (⟨some 32, none, false, .mv (.t 0)⟩, false, 0, 0),
  (⟨some 33, none, false, .nilck (.t 32)⟩, false, 64, 0),
  (⟨some 34, none, false, .fad 0 (.t 33)⟩, false, 192, 0),
  (⟨some 35, none, false, .fad 110 (.t 34)⟩, false, 448, 0),
  (⟨some 36, none, false, .ldc (.t 35)⟩, false, 960, 31),
  (⟨some 37, none, false, .call (.f 47) [(.t 26), (.t 31), (.t 36)]⟩, true, 2047, 0),
  (⟨none, none, false, .st 3 (.t 4) (.t 37)⟩, true, 4095, 0)] (some [4])
def ir24_1 : IC := .seq ir24_r3 .ret
def ir24_r4 : IC := .reg [⟨some 39, none, false, .fad 2 (.t 6)⟩,
  ⟨some 40, none, false, .ldc (.t 39)⟩,
  ⟨some 41, none, false, .not (.t 40)⟩,
  ⟨some 38, none, false, .mv (.t 41)⟩] (some [0, 4, 5, 6, 38])
def ir24_r5 : IC := .draw [(⟨some 42, none, false, .lda 3 (.t 5)⟩, false, 0, 1),
  (⟨some 43, none, false, .mv (.t 0)⟩, false, 0, 0),
  (⟨some 44, none, false, .nilck (.t 43)⟩, false, 2, 0),
  (⟨some 45, none, false, .fad 0 (.t 44)⟩, false, 6, 0),
  (⟨some 46, none, false, .fad 110 (.t 45)⟩, false, 14, 0),
  (⟨some 47, none, false, .ldc (.t 46)⟩, false, 30, 1),
  (⟨some 48, none, false, .mv (.t 0)⟩, false, 0, 0),
  (⟨some 49, none, false, .nilck (.t 48)⟩, false, 64, 0),
  (⟨some 50, none, false, .fad 0 (.t 49)⟩, false, 192, 0),
  (⟨some 51, none, false, .fad 111 (.t 50)⟩, false, 448, 0),
  (⟨some 52, none, false, .ldc (.t 51)⟩, false, 960, 31),
  (⟨some 53, none, false, .call (.f 47) [(.t 42), (.t 47), (.t 52)]⟩, true, 2047, 0),
  (⟨none, none, false, .st 3 (.t 4) (.t 53)⟩, true, 4095, 0)] (some [4])
def ir24_2 : IC := .seq ir24_r5 .ret
def ir24_3 : IC := .cond (.t 38) ir24_2 .skip
def ir24_4 : IC := .seq ir24_r4 ir24_3
def ir24_5 : IC := .cond (.t 22) ir24_1 ir24_4
def ir24_6 : IC := .seq ir24_r2 ir24_5
def ir24_7 : IC := .block 0 ir24_6
def ir24_r6 : IC := .draw [(⟨some 54, none, false, .fad 0 (.t 5)⟩, false, 0, 0),
  (⟨some 55, none, false, .ldc (.t 54)⟩, false, 1, 1),
  (⟨some 56, none, false, .neg (.t 55)⟩, false, 3, 0),
  (⟨some 57, none, false, .mv (.t 0)⟩, false, 0, 0),
  (⟨some 58, none, false, .nilck (.t 57)⟩, false, 8, 0),
  (⟨some 59, none, false, .fad 0 (.t 58)⟩, false, 24, 0),
  (⟨some 60, none, false, .fad 111 (.t 59)⟩, false, 56, 0),
  (⟨some 61, none, false, .ldc (.t 60)⟩, false, 120, 2),
  (⟨some 62, none, false, .fad 0 (.t 6)⟩, false, 0, 0),
  (⟨some 63, none, false, .ldc (.t 62)⟩, false, 256, 122),
  (⟨some 64, none, false, .neg (.t 63)⟩, false, 768, 0),
  (⟨some 65, none, false, .mv (.t 0)⟩, false, 0, 0),
  (⟨some 66, none, false, .nilck (.t 65)⟩, false, 2048, 0),
  (⟨some 67, none, false, .fad 0 (.t 66)⟩, false, 6144, 0),
  (⟨some 68, none, false, .fad 110 (.t 67)⟩, false, 14336, 0),
  (⟨some 69, none, false, .ldc (.t 68)⟩, false, 30720, 378),
  (⟨some 70, none, false, .call (.f 49) [(.t 56), (.t 61), (.t 64), (.t 69)]⟩, false, 65535, 1),
  (⟨some 71, none, false, .neg (.t 70)⟩, false, 131071, 0),
  (⟨some 72, none, false, .fad 1 (.t 5)⟩, false, 0, 0),
  (⟨some 73, none, false, .ldc (.t 72)⟩, false, 262144, 65536),
  (⟨some 74, none, false, .mv (.t 0)⟩, false, 0, 0),
  (⟨some 75, none, false, .nilck (.t 74)⟩, false, 1048576, 0),
  (⟨some 76, none, false, .fad 0 (.t 75)⟩, false, 3145728, 0),
  (⟨some 77, none, false, .fad 110 (.t 76)⟩, false, 7340032, 0),
  (⟨some 78, none, false, .ldc (.t 77)⟩, false, 15728640, 327680),
  (⟨some 79, none, false, .fad 1 (.t 6)⟩, false, 0, 0),
  (⟨some 80, none, false, .ldc (.t 79)⟩, false, 33554432, 16056320),
  (⟨some 81, none, false, .mv (.t 0)⟩, false, 0, 0),
  (⟨some 82, none, false, .nilck (.t 81)⟩, false, 134217728, 0),
  (⟨some 83, none, false, .fad 0 (.t 82)⟩, false, 402653184, 0),
  (⟨some 84, none, false, .fad 111 (.t 83)⟩, false, 939524096, 0),
  (⟨some 85, none, false, .ldc (.t 84)⟩, false, 2013265920, 49610752),
  (⟨some 86, none, false, .call (.f 49) [(.t 73), (.t 78), (.t 80), (.t 85)]⟩, true, 4294836223, 0),
  (⟨some 87, none, false, .bld [(.int .i64 0), (.int .i64 0), (.bool false)] [(0, 1, (.t 71)), (1, 1, (.t 86)), (2, 1, (.k (.bool true)))]⟩, false, 8589934591, 0),
  (⟨none, none, false, .st 3 (.t 4) (.t 87)⟩, true, 17179869183, 0)] (some [4])
def ir24_8 : IC := .seq ir24_r6 .ret
def ir24_9 : IC := .seq ir24_7 ir24_8
def ir24_10 : IC := .seq ir24_r1 ir24_9
def ir24_11 : IC := .seq ir24_r0 ir24_10
def ir24 : IC := ir24_11
theorem fn24 : FnIs Try.prog 24 ir24 88 [.cell 4 129] := ⟨Try.f24, Try.f24.body.getD .skip, Try.func24, by kernel_rfl, by kernel_rfl, by kernel_rfl, by kernel_rfl⟩
/- (*boule/pull.chart).accepted · slots 33 · names 0:c 1:t 2:c 3:t 5:k · results [4] -/
def ir22_r0 : IC := .reg [⟨some 4, none, false, .mv (.k (.bool false))⟩] (some [0, 1])
def ir22_r1 : IC := .reg [⟨some 6, none, false, .mv (.t 0)⟩,
  ⟨some 7, none, false, .mv (.t 1)⟩,
  ⟨some 8, none, false, .call (.f 24) [(.t 6), (.t 7)]⟩,
  ⟨some 5, none, false, .alloc [(.int .i64 0), (.int .i64 0), (.bool false)]⟩,
  ⟨none, none, false, .st 3 (.t 5) (.t 8)⟩] (some [0, 5])
def ir22_r2 : IC := .draw [(⟨some 9, none, false, .fad 2 (.t 5)⟩, false, 0, 0),
  (⟨some 10, none, false, .ldc (.t 9)⟩, true, 1, 0),
  (⟨some 11, none, false, .mv (.t 10)⟩, false, 3, 0),
  (⟨some 12, some (11, true), false, .fad 0 (.t 5)⟩, false, 7, 0),
  (⟨some 13, some (11, true), false, .ldc (.t 12)⟩, false, 15, 1),
  (⟨some 14, some (11, true), false, .mv (.t 0)⟩, false, 7, 0),
  (⟨some 15, some (11, true), false, .nilck (.t 14)⟩, false, 39, 0),
  (⟨some 16, some (11, true), false, .fad 0 (.t 15)⟩, false, 103, 0),
  (⟨some 17, some (11, true), false, .fad 112 (.t 16)⟩, false, 231, 0),
  (⟨some 18, some (11, true), false, .fad 0 (.t 17)⟩, false, 487, 0),
  (⟨some 19, some (11, true), false, .ldc (.t 18)⟩, false, 999, 16),
  (⟨some 20, some (11, true), false, .cmp .geq (.t 13) (.t 19)⟩, false, 2047, 0),
  (⟨some 21, none, false, .pick (.t 11) (.t 20) (.k (.bool false))⟩, false, 4095, 0),
  (⟨some 22, none, false, .mv (.t 21)⟩, false, 8191, 0),
  (⟨some 23, some (22, true), false, .fad 1 (.t 5)⟩, false, 16383, 0),
  (⟨some 24, some (22, true), false, .ldc (.t 23)⟩, false, 32767, 1),
  (⟨some 25, some (22, true), false, .mv (.t 0)⟩, false, 16383, 0),
  (⟨some 26, some (22, true), false, .nilck (.t 25)⟩, false, 81919, 0),
  (⟨some 27, some (22, true), false, .fad 0 (.t 26)⟩, false, 212991, 0),
  (⟨some 28, some (22, true), false, .fad 112 (.t 27)⟩, false, 475135, 0),
  (⟨some 29, some (22, true), false, .fad 1 (.t 28)⟩, false, 999423, 0),
  (⟨some 30, some (22, true), false, .ldc (.t 29)⟩, false, 2047999, 32768),
  (⟨some 31, some (22, true), false, .cmp .leq (.t 24) (.t 30)⟩, false, 4194303, 0),
  (⟨some 32, none, false, .pick (.t 22) (.t 31) (.k (.bool false))⟩, false, 8388607, 0),
  (⟨some 4, none, false, .mv (.t 32)⟩, false, 16777215, 0)] (some [4])
def ir22_1 : IC := .seq ir22_r2 .ret
def ir22_2 : IC := .seq ir22_r1 ir22_1
def ir22_3 : IC := .seq ir22_r0 ir22_2
def ir22 : IC := ir22_3
theorem fn22 : FnIs Try.prog 22 ir22 33 [.tmp 4] := ⟨Try.f22, Try.f22.body.getD .skip, Try.func22, by kernel_rfl, by kernel_rfl, by kernel_rfl, by kernel_rfl⟩
def accB (lo hi : Int) (k : Kn) : Bool := k.s && decide (k.l ≥ lo) && decide (k.h ≤ hi)
section
variable {ps : List Int} {B F : List Kn} {n t : Nat}
/-- What the chart's numbers are. -/
structure ChOK (ps : List Int) (n : Nat) (B F : List Kn) : Prop where
  pl : ps.length = 117
  g : (0 ≤ nth ps 110 ∧ nth ps 110 ≤ 1000000) ∧ 0 ≤ nth ps 111 ∧ nth ps 111 ≤ 1000000
  nn : n ≤ 1000
  bl : B.length = n
  fl : F.length = n
  b : ∀ t, t < n → smK (nth B t)
  f : ∀ t, t < n → smK (nth F t)
theorem btw_c (C : ChOK ps n B F) (ht : t + 1 < n) : Fc Try.prog 24 [pt 1, I6 t] (Hp 4 (chM ps n B F)) (kV (btw (nth ps 110) (nth ps 111) (nth B t) (nth F (t + 1)))) (Hp 4 (chM ps n B F)) := by
  have hl := C.pl
  have hn := C.nn
  refine Fc.intro0 fn24 (by simp) rfl rfl ?_; simp only [argF]
  have hcu := fun u v => chC_u hl u v
  have hcv := fun u v => chC_v hl u v
  have g110 := fun u v => chC_p hl u v (i := 110) (by omega)
  have g111 := fun u v => chC_p hl u v (i := 111) (by omega)
  have hnn : ∀ a, (notNil (.pointer (some a)) = true) = True := fun a => eq_true rfl
  have gb := takeK (xs := B) (i := t) (by rw [C.bl]; omega)
  have gf := takeK (xs := F) (i := t + 1) (by rw [C.fl]; omega)
  have hk1 : (t : Int) + 1 = ((t + 1 : Nat) : Int) := by omega
  have sb := C.b t (by omega)
  have sf := C.f (t + 1) ht
  have hg := C.g
  generalize nth ps 110 = g at *
  generalize nth ps 111 = s at *
  generalize nth B t = a at *
  generalize nth F (t + 1) = b at *
  obtain ⟨al, ah, sa⟩ := a
  obtain ⟨bl, bh, bq⟩ := b
  unfold smK at sb sf
  simp only at sb sf gb gf
  unfold btw
  simp only
  refine ITri.seq ?_
  refine ITri.reg pok ?_; simp -implicitDefEqProofs (disch := first | decide | exact of_eq_true (eq_true rfl) | omega | assumption) only [ ↓vcD, vcE, ↓vcG, vcF, evs, evP, evB, intsOf, fillC, Value.cells, pt, Value.oneCell', reduceIte, reduceCtorEq, Nat.reduceEqDiff, Nat.reduceAdd, Nat.reduceMul, Nat.reduceLT, Nat.reduceBEq, Nat.reduceLeDiff, Nat.reduceSub] -- r0
  refine ITri.seq ?_
  refine ITri.draw pok ?_; simp -implicitDefEqProofs (disch := first | decide | exact of_eq_true (eq_true rfl) | omega | assumption) only [hcu, hcv, gb, gf, hk1, Int.toNat_natCast, hnn, true_and, wr33,  ↓vcD, vcE, ↓vcG, vcF, evs, evP, evB, intsOf, fillC, Value.cells, pt, Value.oneCell', reduceIte, reduceCtorEq, Nat.reduceEqDiff, Nat.reduceAdd, Nat.reduceMul, Nat.reduceLT, Nat.reduceBEq, Nat.reduceLeDiff, Nat.reduceSub] -- r1
  refine ITri.seq ?_
  refine ITri.block ?_ -- 0
  refine ITri.seq ?_
  cases sa with
  | false =>
    rw [if_pos rfl]
    refine ITri.reg pok ?_; simp -implicitDefEqProofs (disch := first | decide | exact of_eq_true (eq_true rfl) | omega | assumption) only [Bool.not_false,  ↓vcD, vcE, ↓vcG, vcF, evs, evP, evB, intsOf, fillC, Value.cells, pt, Value.oneCell', reduceIte, reduceCtorEq, Nat.reduceEqDiff, Nat.reduceAdd, Nat.reduceMul, Nat.reduceLT, Nat.reduceBEq, Nat.reduceLeDiff, Nat.reduceSub] -- r2
    refine ITri.cond (v := true) rfl (fun _ => ?_) (fun h => by cases h)
    refine ITri.seq ?_
    refine ITri.draw pok ?_; simp -implicitDefEqProofs (disch := first | decide | exact of_eq_true (eq_true rfl) | omega | assumption) only [g110, g111, hnn, true_and,  ↓vcD, vcE, ↓vcG, vcF, evs, evP, evB, intsOf, fillC, Value.cells, pt, Value.oneCell', reduceIte, reduceCtorEq, Nat.reduceEqDiff, Nat.reduceAdd, Nat.reduceMul, Nat.reduceLT, Nat.reduceBEq, Nat.reduceLeDiff, Nat.reduceSub] -- r3
    refine ⟨_, _, later_f ⟨bl, bh, bq⟩ s g sf hg.2 hg.1 (sees0 rfl (of_decide_eq_true rfl)), ?_⟩
    simp -implicitDefEqProofs (disch := first | decide | exact of_eq_true (eq_true rfl) | omega | assumption) only [wr33,  ↓vcD, vcE, ↓vcG, vcF, evs, evP, evB, intsOf, fillC, Value.cells, pt, Value.oneCell', reduceIte, reduceCtorEq, Nat.reduceEqDiff, Nat.reduceAdd, Nat.reduceMul, Nat.reduceLT, Nat.reduceBEq, Nat.reduceLeDiff, Nat.reduceSub]
    refine ITri.ret ?_; exact EndR.plain (vs := [kV (Kn.later ⟨bl, bh, bq⟩ s g)]) (by simp) (resF_agg 3 rfl (by kernel_rfl) (by simp -implicitDefEqProofs (disch := first | decide | exact of_eq_true (eq_true rfl) | omega | assumption) only [↓vcD, vcE, ↓vcG, vcF, evs, evP, evB, intsOf, fillC, Value.cells, pt, Value.oneCell', reduceIte, reduceCtorEq, Nat.reduceEqDiff, Nat.reduceAdd, Nat.reduceMul, Nat.reduceLT, Nat.reduceBEq, Nat.reduceLeDiff, Nat.reduceSub]) resF_nil) (by rfl) (by rfl)
  | true =>
    rw [if_neg (by decide)]
    refine ITri.reg pok ?_; simp -implicitDefEqProofs (disch := first | decide | exact of_eq_true (eq_true rfl) | omega | assumption) only [Bool.not_true,  ↓vcD, vcE, ↓vcG, vcF, evs, evP, evB, intsOf, fillC, Value.cells, pt, Value.oneCell', reduceIte, reduceCtorEq, Nat.reduceEqDiff, Nat.reduceAdd, Nat.reduceMul, Nat.reduceLT, Nat.reduceBEq, Nat.reduceLeDiff, Nat.reduceSub] -- r2
    refine ITri.cond (v := false) rfl (fun h => by cases h) (fun _ => ?_)
    refine ITri.seq ?_
    cases bq with
    | false =>
      rw [if_pos rfl]
      refine ITri.reg pok ?_; simp -implicitDefEqProofs (disch := first | decide | exact of_eq_true (eq_true rfl) | omega | assumption) only [Bool.not_false,  ↓vcD, vcE, ↓vcG, vcF, evs, evP, evB, intsOf, fillC, Value.cells, pt, Value.oneCell', reduceIte, reduceCtorEq, Nat.reduceEqDiff, Nat.reduceAdd, Nat.reduceMul, Nat.reduceLT, Nat.reduceBEq, Nat.reduceLeDiff, Nat.reduceSub] -- r4
      refine ITri.cond (v := true) rfl (fun _ => ?_) (fun h => by cases h)
      refine ITri.seq ?_
      refine ITri.draw pok ?_; simp -implicitDefEqProofs (disch := first | decide | exact of_eq_true (eq_true rfl) | omega | assumption) only [g110, g111, hnn, true_and,  ↓vcD, vcE, ↓vcG, vcF, evs, evP, evB, intsOf, fillC, Value.cells, pt, Value.oneCell', reduceIte, reduceCtorEq, Nat.reduceEqDiff, Nat.reduceAdd, Nat.reduceMul, Nat.reduceLT, Nat.reduceBEq, Nat.reduceLeDiff, Nat.reduceSub] -- r5
      refine ⟨_, _, later_f ⟨al, ah, true⟩ g s sb hg.1 hg.2 (sees0 rfl (of_decide_eq_true rfl)), ?_⟩
      simp -implicitDefEqProofs (disch := first | decide | exact of_eq_true (eq_true rfl) | omega | assumption) only [wr33,  ↓vcD, vcE, ↓vcG, vcF, evs, evP, evB, intsOf, fillC, Value.cells, pt, Value.oneCell', reduceIte, reduceCtorEq, Nat.reduceEqDiff, Nat.reduceAdd, Nat.reduceMul, Nat.reduceLT, Nat.reduceBEq, Nat.reduceLeDiff, Nat.reduceSub]
      refine ITri.ret ?_; exact EndR.plain (vs := [kV (Kn.later ⟨al, ah, true⟩ g s)]) (by simp) (resF_agg 3 rfl (by kernel_rfl) (by simp -implicitDefEqProofs (disch := first | decide | exact of_eq_true (eq_true rfl) | omega | assumption) only [↓vcD, vcE, ↓vcG, vcF, evs, evP, evB, intsOf, fillC, Value.cells, pt, Value.oneCell', reduceIte, reduceCtorEq, Nat.reduceEqDiff, Nat.reduceAdd, Nat.reduceMul, Nat.reduceLT, Nat.reduceBEq, Nat.reduceLeDiff, Nat.reduceSub]) resF_nil) (by rfl) (by rfl)
    | true =>
      rw [if_neg (by decide)]
      refine ITri.reg pok ?_; simp -implicitDefEqProofs (disch := first | decide | exact of_eq_true (eq_true rfl) | omega | assumption) only [Bool.not_true,  ↓vcD, vcE, ↓vcG, vcF, evs, evP, evB, intsOf, fillC, Value.cells, pt, Value.oneCell', reduceIte, reduceCtorEq, Nat.reduceEqDiff, Nat.reduceAdd, Nat.reduceMul, Nat.reduceLT, Nat.reduceBEq, Nat.reduceLeDiff, Nat.reduceSub] -- r4
      refine ITri.cond (v := false) rfl (fun h => by cases h) (fun _ => ?_); refine ITri.skip ?_; simp only [SeqQ_normal, BlkQ_normal]
      refine ITri.seq ?_
      have p1 : -100000000000000000 ≤ peakI (-al) s (-bl) g ∧ peakI (-al) s (-bl) g ≤ 100000000000000000 := peak_bd (by omega) (by omega) hg.2 hg.1
      refine ITri.draw pok ?_; simp -implicitDefEqProofs (disch := first | decide | exact of_eq_true (eq_true rfl) | omega | assumption) only [g110, g111, hnn, true_and,  ↓vcD, vcE, ↓vcG, vcF, evs, evP, evB, intsOf, fillC, Value.cells, pt, Value.oneCell', reduceIte, reduceCtorEq, Nat.reduceEqDiff, Nat.reduceAdd, Nat.reduceMul, Nat.reduceLT, Nat.reduceBEq, Nat.reduceLeDiff, Nat.reduceSub] -- r6
      refine ⟨_, _, peak_f (-al) s (-bl) g (by omega) (by omega) hg.2 hg.1 (sees0 rfl (of_decide_eq_true rfl)), ?_⟩
      simp -implicitDefEqProofs (disch := first | decide | exact of_eq_true (eq_true rfl) | omega | assumption) only [g110, g111, hnn, true_and,  ↓vcD, vcE, ↓vcG, vcF, evs, evP, evB, intsOf, fillC, Value.cells, pt, Value.oneCell', reduceIte, reduceCtorEq, Nat.reduceEqDiff, Nat.reduceAdd, Nat.reduceMul, Nat.reduceLT, Nat.reduceBEq, Nat.reduceLeDiff, Nat.reduceSub]
      refine ⟨_, _, peak_f ah g bh s (by omega) (by omega) hg.1 hg.2 (sees0 rfl (of_decide_eq_true rfl)), ?_⟩
      simp -implicitDefEqProofs (disch := first | decide | exact of_eq_true (eq_true rfl) | omega | assumption) only [wr33,  ↓vcD, vcE, ↓vcG, vcF, evs, evP, evB, intsOf, fillC, Value.cells, pt, Value.oneCell', reduceIte, reduceCtorEq, Nat.reduceEqDiff, Nat.reduceAdd, Nat.reduceMul, Nat.reduceLT, Nat.reduceBEq, Nat.reduceLeDiff, Nat.reduceSub]
      refine ITri.ret ?_; exact EndR.plain (vs := [kV ⟨-peakI (-al) s (-bl) g, peakI ah g bh s, true⟩]) (by simp) (resF_agg 3 rfl (by kernel_rfl) (by simp -implicitDefEqProofs (disch := first | decide | exact of_eq_true (eq_true rfl) | omega | assumption) only [↓vcD, vcE, ↓vcG, vcF, evs, evP, evB, intsOf, fillC, Value.cells, pt, Value.oneCell', reduceIte, reduceCtorEq, Nat.reduceEqDiff, Nat.reduceAdd, Nat.reduceMul, Nat.reduceLT, Nat.reduceBEq, Nat.reduceLeDiff, Nat.reduceSub]) resF_nil) (by rfl) (by rfl)
theorem acc_c (C : ChOK ps n B F) (ht : t + 1 < n) : Fc Try.prog 22 [pt 1, I6 t] (Hp 4 (chM ps n B F)) (.bool (accB (nth ps 112) (nth ps 113) (btw (nth ps 110) (nth ps 111) (nth B t) (nth F (t + 1))))) (Hp 4 (chM ps n B F)) := by
  have hl := C.pl
  refine Fc.intro0 fn22 (by simp) rfl rfl ?_; simp only [argF]
  have g112 := fun u v => chC_p hl u v (i := 112) (by omega)
  have g113 := fun u v => chC_p hl u v (i := 113) (by omega)
  have hnn : ∀ a, (notNil (.pointer (some a)) = true) = True := fun a => eq_true rfl
  have F1 := btw_c C ht
  generalize btw (nth ps 110) (nth ps 111) (nth B t) (nth F (t + 1)) = k at *
  generalize nth ps 112 = lo at *
  generalize nth ps 113 = hi at *
  obtain ⟨kl, kh, ks⟩ := k
  unfold accB
  simp only
  refine ITri.seq ?_
  refine ITri.reg pok ?_; simp -implicitDefEqProofs (disch := first | decide | exact of_eq_true (eq_true rfl) | omega | assumption) only [ ↓vcD, vcE, ↓vcG, vcF, evs, evP, evB, intsOf, fillC, Value.cells, pt, Value.oneCell', reduceIte, reduceCtorEq, Nat.reduceEqDiff, Nat.reduceAdd, Nat.reduceMul, Nat.reduceLT, Nat.reduceBEq, Nat.reduceLeDiff, Nat.reduceSub] -- r0
  refine ITri.seq ?_
  refine ITri.reg pok ?_; simp -implicitDefEqProofs (disch := first | decide | exact of_eq_true (eq_true rfl) | omega | assumption) only [ ↓vcD, vcE, ↓vcG, vcF, evs, evP, evB, intsOf, fillC, Value.cells, pt, Value.oneCell', reduceIte, reduceCtorEq, Nat.reduceEqDiff, Nat.reduceAdd, Nat.reduceMul, Nat.reduceLT, Nat.reduceBEq, Nat.reduceLeDiff, Nat.reduceSub] -- r1
  refine ⟨_, _, F1, ?_⟩
  simp -implicitDefEqProofs (disch := first | decide | exact of_eq_true (eq_true rfl) | omega | assumption) only [wr33,  ↓vcD, vcE, ↓vcG, vcF, evs, evP, evB, intsOf, fillC, Value.cells, pt, Value.oneCell', reduceIte, reduceCtorEq, Nat.reduceEqDiff, Nat.reduceAdd, Nat.reduceMul, Nat.reduceLT, Nat.reduceBEq, Nat.reduceLeDiff, Nat.reduceSub]
  refine ITri.seq ?_
  cases ks with
  | false =>
    refine ITri.draw pok ?_; simp -implicitDefEqProofs (disch := first | decide | exact of_eq_true (eq_true rfl) | omega | assumption) only [ ↓vcD, vcE, ↓vcG, vcF, evs, evP, evB, intsOf, fillC, Value.cells, pt, Value.oneCell', reduceIte, reduceCtorEq, Nat.reduceEqDiff, Nat.reduceAdd, Nat.reduceMul, Nat.reduceLT, Nat.reduceBEq, Nat.reduceLeDiff, Nat.reduceSub] -- r2
    refine ITri.ret ?_; exact EndR.plain (by simp) (by rfl) (by rfl) (by rfl)
  | true =>
    by_cases c1 : kl ≥ lo
    · rw [decide_eq_true c1]
      by_cases c2 : kh ≤ hi
      · rw [decide_eq_true c2]
        refine ITri.draw pok ?_; simp -implicitDefEqProofs (disch := first | decide | exact of_eq_true (eq_true rfl) | omega | assumption) only [g112, g113, hnn, true_and, c1, c2, decide_true,  ↓vcD, vcE, ↓vcG, vcF, evs, evP, evB, intsOf, fillC, Value.cells, pt, Value.oneCell', reduceIte, reduceCtorEq, Nat.reduceEqDiff, Nat.reduceAdd, Nat.reduceMul, Nat.reduceLT, Nat.reduceBEq, Nat.reduceLeDiff, Nat.reduceSub] -- r2
        refine ITri.ret ?_; exact EndR.plain (by simp) (by rfl) (by rfl) (by rfl)
      · rw [decide_eq_false c2]
        refine ITri.draw pok ?_; simp -implicitDefEqProofs (disch := first | decide | exact of_eq_true (eq_true rfl) | omega | assumption) only [g112, g113, hnn, true_and, c1, c2, decide_true, decide_false,  ↓vcD, vcE, ↓vcG, vcF, evs, evP, evB, intsOf, fillC, Value.cells, pt, Value.oneCell', reduceIte, reduceCtorEq, Nat.reduceEqDiff, Nat.reduceAdd, Nat.reduceMul, Nat.reduceLT, Nat.reduceBEq, Nat.reduceLeDiff, Nat.reduceSub] -- r2
        refine ITri.ret ?_; exact EndR.plain (by simp) (by rfl) (by rfl) (by rfl)
    · rw [decide_eq_false c1]
      refine ITri.draw pok ?_; simp -implicitDefEqProofs (disch := first | decide | exact of_eq_true (eq_true rfl) | omega | assumption) only [g112, g113, hnn, true_and, c1, decide_false,  ↓vcD, vcE, ↓vcG, vcF, evs, evP, evB, intsOf, fillC, Value.cells, pt, Value.oneCell', reduceIte, reduceCtorEq, Nat.reduceEqDiff, Nat.reduceAdd, Nat.reduceMul, Nat.reduceLT, Nat.reduceBEq, Nat.reduceLeDiff, Nat.reduceSub] -- r2
      refine ITri.ret ?_; exact EndR.plain (by simp) (by rfl) (by rfl) (by rfl)
theorem frC {h : AH} {k b f zb zf : Nat} {ob of : Bool} (h0 : h.sees 0 = true) (hk : h.get k = some (.cells ⟨chC ps (slN b n) (slN f n), 1, false⟩)) (hb : h.get b = some (.cells ⟨rows eK B, zb, ob⟩)) (hf : h.get f = some (.cells ⟨rows eK F, zf, of⟩)) :
    frOK h (psL [(0, 0, false), (k, 0, false), (b, 0, false), (f, 0, false)]) 4 0 (chM ps n B F) := by
  refine ⟨fr_none h0, ⟨get_sees hk, fun ob e => ?_⟩, fr_rd (p := (b, 0, false)) (n := n) rfl ⟨get_sees hb, _, hb, ⟨[], by simp⟩, fun _ => Nat.zero_le _⟩ (rows_no _), fr_rd (p := (f, 0, false)) (n := n) rfl ⟨get_sees hf, _, hf, ⟨[], by simp⟩, fun _ => Nat.zero_le _⟩ (rows_no _), trivial⟩
  cases e
  refine .inr ⟨(fun e => by cases e), _, hk, ?_⟩
  refine ⟨?_, (fun e => Nat.zero_le _), ?_, (fun e => by cases e), fun _ => Nat.one_ne_zero⟩
  · show mwL _ (chC ps _ _) <+: (chC ps _ _).drop 0
    rw [mwL_chC, List.drop_zero]
    exact ⟨[], by rw [List.append_nil]; rfl⟩
  · show okML _ _ (chC ps _ _)
    rw [chC_ok]
    exact ⟨⟨show 2 < 4 by decide, trivial⟩, ⟨show 3 < 4 by decide, trivial⟩⟩
abbrev accF (ps : List Int) (B F : List Kn) (t : Nat) : Bool := accB (nth ps 112) (nth ps 113) (btw (nth ps 110) (nth ps 111) (nth B t) (nth F (t + 1)))
abbrev btwF (ps : List Int) (B F : List Kn) (t : Nat) : Kn := btw (nth ps 110) (nth ps 111) (nth B t) (nth F (t + 1))
theorem acc_f {h : AH} {k b f zb zf : Nat} {ob of : Bool} (C : ChOK ps n B F) (ht : t + 1 < n) (h0 : h.sees 0 = true) (hk : h.get k = some (.cells ⟨chC ps (slN b n) (slN f n), 1, false⟩)) (hb : h.get b = some (.cells ⟨rows eK B, zb, ob⟩)) (hf : h.get f = some (.cells ⟨rows eK F, zf, of⟩)) :
    Fc Try.prog 22 [pt k, I6 t] h (.bool (accF ps B F t)) h :=
  Fc.frameL (Lc := chM ps n B F) (os := []) (acc_c C ht) [(0, 0, false), (k, 0, false), (b, 0, false), (f, 0, false)] rfl (frC h0 hk hb hf) ⟨⟨show 1 < 4 by decide, trivial⟩, trivial, trivial⟩ (okM_noAddr _ _ _ rfl) (fun o ho => by cases ho) rfl (mw_noAddr _ _ rfl) rfl
theorem btw_f {h : AH} {k b f zb zf : Nat} {ob of : Bool} (C : ChOK ps n B F) (ht : t + 1 < n) (h0 : h.sees 0 = true) (hk : h.get k = some (.cells ⟨chC ps (slN b n) (slN f n), 1, false⟩)) (hb : h.get b = some (.cells ⟨rows eK B, zb, ob⟩)) (hf : h.get f = some (.cells ⟨rows eK F, zf, of⟩)) :
    Fc Try.prog 24 [pt k, I6 t] h (kV (btwF ps B F t)) h :=
  Fc.frameL (Lc := chM ps n B F) (os := []) (btw_c C ht) [(0, 0, false), (k, 0, false), (b, 0, false), (f, 0, false)] rfl (frC h0 hk hb hf) ⟨⟨show 1 < 4 by decide, trivial⟩, trivial, trivial⟩ (okM_noAddr _ _ _ rfl) (fun o ho => by cases ho) rfl (mw_noAddr _ _ rfl) rfl
end
end Go.Proofs.Yteddklolpcpjaaa
