/-
  The law of chapter 7 on accounts: CropAccounts: its end (grinding), its middle, the whole.
-/
import Derived.Test.YtlkfcbdbieenhaaCropWK
import Derived.Test.YtlkfcbdbieenhaaCropB7
import Derived.Test.YtlkfcbdbieenhaaCropG2
import Derived.Deep.DeepCutAuto
namespace Go.Proofs.Ytlkfcbdbieenhaa
open Go.RowKit

/-- The law's memory: the boxes of the saw and of the dust. -/
def DL (w wr : World) (s1 s2 s3 : Int) (A2 : Option Addr) (n2 cap2 : Nat) (a b c d p : Int) : Prop :=
  Bk wr w.heap.size 24 #[.int .i64 s1, .int .i64 s2, .int .i64 s3] ∧ Bk wr (w.heap.size + 1) 42 #[.slice A2 n2 cap2, .int .i64 a, .int .i64 b, .int .i64 c, .int .i64 d, .int .u8 p] ∧ Below w.heap.size w wr
section
variable {w wr w1 : World} {s1 s2 s3 : Int} {A2 : Option Addr} {n2 cap2 : Nat} {a b c d p : Int}
theorem DL.below (h : DL w wr s1 s2 s3 A2 n2 cap2 a b c d p) (hb : Below wr.heap.size wr w1) : DL w w1 s1 s2 s3 A2 n2 cap2 a b c d p := ⟨h.1.below hb h.1.lt, h.2.1.below hb h.2.1.lt, thru h.2.2 hb⟩
theorem DL.cells (h : DL w wr s1 s2 s3 A2 n2 cap2 a b c d p) : wr.cell? ⟨w.heap.size + 1, 0, none⟩ = some (.slice A2 n2 cap2) ∧ wr.cell? ⟨w.heap.size + 1, 1, none⟩ = some (.int .i64 a) ∧ wr.cell? ⟨w.heap.size + 1, 2, none⟩ = some (.int .i64 b) ∧ wr.cell? ⟨w.heap.size + 1, 3, none⟩ = some (.int .i64 c) ∧ wr.cell? ⟨w.heap.size + 1, 4, none⟩ = some (.int .i64 d) ∧ wr.cell? ⟨w.heap.size + 1, 5, none⟩ = some (.int .u8 p) :=
  ⟨h.2.1.cell rfl, h.2.1.cell rfl, h.2.1.cell rfl, h.2.1.cell rfl, h.2.1.cell rfl, h.2.1.cell rfl⟩
end

/-- A true diameter within the range. -/
def t0F (b c p : Int) : Int := b + Int.tdiv ((c - b) * p) 255
theorem t0F_bd {b c p : Int} (hb : 0 ≤ b ∧ b ≤ c ∧ c ≤ 500000) (hp : 0 ≤ p ∧ p ≤ 255) : (0 ≤ (c - b) * p ∧ (c - b) * p ≤ 127500000) ∧ b ≤ t0F b c p ∧ t0F b c p ≤ c := by
  have h1 : 0 ≤ (c - b) * p := Int.mul_nonneg (by omega) hp.1
  have h2 : (c - b) * p ≤ (c - b) * 255 := Int.mul_le_mul_of_nonneg_left hp.2 (by omega)
  unfold t0F
  rw [Int.tdiv_eq_ediv_of_nonneg h1]
  refine ⟨⟨h1, by omega⟩, ?_, ?_⟩ <;> omega
theorem volF_mono {a x y : Int} (ha : 0 ≤ a) (hx : 0 ≤ x) (hxy : x ≤ y) : volF a x ≤ volF a y := by
  unfold volF
  exact Int.mul_le_mul (Int.mul_le_mul_of_nonneg_left hxy ha) hxy hx (Int.mul_nonneg ha (by omega))

set_option maxRecDepth 100000 in
set_option maxHeartbeats 16000000 in
theorem accounts_end (A : Option Addr) (n cap : Nat) (s1 s2 s3 : Int) (A2 : Option Addr) (n2 cap2 : Nat) (a b c d p : Int) (w : World) (hp : 0 ≤ p ∧ p ≤ 255) (wq : World) (hdl : DL w wq s1 s2 s3 A2 n2 cap2 a b c d p)
    (u3 u6 u7 u8 u9 u10 u11 u12 u13 u14 u15 u16 u17 u18 u19 u20 u21 u22 u23 u24 u25 u26 u27 u28 u29 u30 u31 u32 u33 u34 u35 u36 u37 u38 u39 u40 u41 u42 u43 u44 u45 u46 u47 u48 u49 u50 u51 u52 u53 u54 u55 u56 u57 u58 u59 u60 u61 u62 u63 u64 u65 u66 u67 u68 u69 u70 u71 u72 u73 u74 u75 u76 u77 u78 u79 u80 u81 u82 u83 u84 u85 u86 u87 u88 u89 u90 u91 u92 u93 u94 u95 u96 u97 u98 u99 u100 u101 u102 u103 u104 u105 u106 u107 u108 u109 u110 u111 u112 u113 u114 u115 u116 u117 u118 u119 u120 u121 u122 u123 u124 u125 u126 u127 u128 u129 u130 u131 u132 u133 u134 u135 u136 u137 u138 u139 u140 u141 u142 u143 u144 u145 u146 u147 u148 u149 u150 u151 u152 u153 u154 u155 u156 u157 u158 u159 u160 u161 u162 u163 u164 u165 u166 u167 u168 u169 u170 u171 u172 u173 u174 u175 u176 u177 u178 u179 u180 u181 u182 u183 u184 u185 u186 u187 u188 u189 u190 u191 u192 u193 u194 u195 : Value) :
    Code.wp Try.prog (codeSkip 6 (Try.f4.body.getD .skip)) (bodyPost Try.prog Try.f4 fun e w' => e = .returned (.bool true) ∧ Below w.heap.size w w')
      { tmps := #[.slice A n cap, .agg #[.int .i64 s1, .int .i64 s2, .int .i64 s3], .agg #[.slice A2 n2 cap2, .int .i64 a, .int .i64 b, .int .i64 c, .int .i64 d, .int .u8 p], u3, .pointer (some ⟨w.heap.size, 0, none⟩), .pointer (some ⟨w.heap.size + 1, 0, none⟩), u6, u7, u8, u9, u10, u11, u12, u13, u14, u15, u16, u17, u18, u19, u20, u21, u22, u23, u24, u25, u26, u27, u28, u29, u30, u31, u32, u33, u34, u35, u36, u37, u38, u39, u40, u41, u42, u43, u44, u45, u46, u47, u48, u49, u50, u51, u52, u53, u54, u55, u56, u57, u58, u59, u60, u61, u62, u63, u64, u65, u66, u67, u68, u69, u70, u71, u72, u73, u74, u75, u76, u77, u78, u79, u80, u81, u82, u83, u84, u85, u86, u87, u88, u89, u90, u91, u92, u93, u94, u95, u96, u97, u98, u99, u100, u101, u102, u103, u104, u105, u106, u107, u108, u109, u110, u111, u112, u113, u114, u115, u116, u117, u118, u119, u120, u121, u122, u123, u124, u125, u126, u127, u128, u129, u130, u131, u132, u133, u134, u135, u136, u137, u138, u139, u140, u141, u142, u143, u144, u145, u146, u147, u148, u149, u150, u151, u152, u153, u154, u155, u156, u157, u158, u159, u160, u161, u162, u163, u164, u165, u166, u167, u168, u169, u170, u171, u172, u173, u174, u175, u176, u177, u178, u179, u180, u181, u182, u183, u184, u185, u186, u187, u188, u189, u190, u191, u192, u193, u194, u195], defers := [] } wq := by
  conv => arg 2; whnf
  dsimp only
  have KN := Lib.hid (fun W => known_any W)
  have HDL := Lib.hid hdl
  obtain ⟨y0, y1, y2, y3, y4, y5⟩ := hdl.cells
  have GR := Lib.hid (fun W => grind_any a b c d W)
  clear hdl
  cases h1 : okS (a, b, c)
  · have e : grF a b c d = (0, 0, 0, 2) := by rw [grF, if_pos h1]
    rw [e] at GR
    unfold grV at GR
    simp only at GR
    clear e
    go_wp2_with (first | (go_at_call 23; refine (GR.out _).mono ?_; rintro e w1 ⟨rfl, hb1⟩; have dl1 := HDL.out.below hb1; obtain ⟨g0, g1, g2, g3, g4, g5⟩ := dl1.cells; have hlD := dl1.2.1.lt) | (go_at_call 14; refine (KN.out _).mono ?_; rintro e w3 ⟨rfl, hb3⟩))
    go_ret
    exact ⟨rfl, thru (dl1.2.2.alloc dl1.2.2.size _) hb3⟩
  · have hs := okS_t h1
    cases h2 : inB d 1 500000
    · have e : grF a b c d = (0, 0, 0, 3) := by rw [grF, if_neg (by simp [h1]), if_pos h2]
      rw [e] at GR
      unfold grV at GR
      simp only at GR
      clear e
      go_wp2_with (first | (go_at_call 23; refine (GR.out _).mono ?_; rintro e w1 ⟨rfl, hb1⟩; have dl1 := HDL.out.below hb1; obtain ⟨g0, g1, g2, g3, g4, g5⟩ := dl1.cells; have hlD := dl1.2.1.lt) | (go_at_call 14; refine (KN.out _).mono ?_; rintro e w3 ⟨rfl, hb3⟩))
      go_ret
      exact ⟨rfl, thru (dl1.2.2.alloc dl1.2.2.size _) hb3⟩
    · have hd := inB_iff.1 h2
      by_cases h5 : b < d
      · have e : grF a b c d = (0, 0, 0, 70) := by rw [grF, if_neg (by simp [h1]), if_neg (by simp [h2]), if_pos h5]
        rw [e] at GR
        unfold grV at GR
        simp only at GR
        clear e
        go_wp2_with (first | (go_at_call 23; refine (GR.out _).mono ?_; rintro e w1 ⟨rfl, hb1⟩; have dl1 := HDL.out.below hb1; obtain ⟨g0, g1, g2, g3, g4, g5⟩ := dl1.cells; have hlD := dl1.2.1.lt) | (go_at_call 14; refine (KN.out _).mono ?_; rintro e w3 ⟨rfl, hb3⟩))
        go_ret
        exact ⟨rfl, thru (dl1.2.2.alloc dl1.2.2.size _) hb3⟩
      · have e : grF a b c d = (volF a d, volF a b - volF a d, volF a c - volF a d, 0) := by rw [grF, if_neg (by simp [h1]), if_neg (by simp [h2]), if_neg h5]
        rw [e] at GR
        unfold grV at GR
        simp only at GR
        have ht := t0F_bd (b := b) (c := c) (p := p) (by omega) hp
        have HT0 := Lib.hid (show b + Int.tdiv ((c - b) * p) 255 = t0F b c p from rfl)
        obtain ⟨⟨ht1, ht2⟩, ht3, ht4⟩ := ht
        clear e
        have z1 := volF_bd hs.1 (d := b) (by omega)
        have z2 := volF_bd hs.1 (d := c) (by omega)
        have z3 := volF_bd hs.1 (d := d) (by omega)
        have z4 := volF_bd hs.1 (d := t0F b c p) (by omega)
        have m1 := volF_mono (a := a) (x := b) (y := t0F b c p) (by omega) (by omega) ht3
        have m2 := volF_mono (a := a) (x := t0F b c p) (y := c) (by omega) (by omega) ht4
        have m3 := volF_mono (a := a) (x := d) (y := b) (by omega) (by omega) (by omega)
        unfold volF at z1 z2 z3 z4 m1 m2 m3 GR
        obtain ⟨⟨z11, z12⟩, z13, z14⟩ := z1
        obtain ⟨⟨z21, z22⟩, z23, z24⟩ := z2
        obtain ⟨⟨z31, z32⟩, z33, z34⟩ := z3
        obtain ⟨⟨z41, z42⟩, z43, z44⟩ := z4
        go_upto_region 20 with (first | (go_at_call 23; refine (GR.out _).mono ?_; rintro e w1 ⟨rfl, hb1⟩; have dl1 := HDL.out.below hb1; obtain ⟨g0, g1, g2, g3, g4, g5⟩ := dl1.cells; have hlD := dl1.2.1.lt) | (go_at_call 14; refine (KN.out _).mono ?_; rintro e w3 ⟨rfl, hb3⟩))
        have dl2 := dl1.below (ba (o := .cells #[.int .i64 (a * b * b - a * d * d), .int .i64 (a * c * c - a * d * d)] 38) (Below.refl w1.heap.size w1))
        have kr2 := Bk.newAt w1 #[.int .i64 (a * b * b - a * d * d), .int .i64 (a * c * c - a * d * d)] 38 w1.heap.size rfl
        generalize w1.alloc (.cells #[.int .i64 (a * b * b - a * d * d), .int .i64 (a * c * c - a * d * d)] 38) = wv at *
        obtain ⟨q0, q1, q2, q3, q4, q5⟩ := dl2.cells
        obtain ⟨⟨r0, r1⟩, -⟩ := kr2.c2
        have HD2 := Lib.hid dl2.2.2
        clear g0 g1 g2 g3 g4 g5 dl1 hb1 dl2 kr2
        go_cut [14] (fun s14 wx => s14 = .int .i64 (t0F b c p) ∧ wv = wx)
        case first =>
          go_wp2_with fail
          go_meet
          exact ⟨congrArg (Value.int .i64) (by unfold t0F; rw [Int.tdiv_eq_ediv_of_nonneg ht1]), rfl⟩
        case rest =>
          obtain ⟨rfl, rfl⟩ := hcut
          generalize t0F b c p = t0 at *
          clear HT0 ht1 ht2
          go_wp2_with (go_at_call 14; refine (KN.out _).mono ?_; rintro e w3 ⟨rfl, hb3⟩)
          go_ret
          exact ⟨rfl, thru HD2.out hb3⟩

theorem Sl.atW {α : Type} {enc : α → List Value} {c : Nat} {w W : World} {A : Option Addr} {n : Nat} {xs : List α} (h : Sl enc c w w.heap.size A n xs) (hb : Below w.heap.size w W) : Sl enc c W W.heap.size A n xs := (h.below hb).more hb.size
theorem kF_or_le (x y : Nat → Bool) (n : Nat) : kF (fun p => x p || y p) n ≤ kF x n + kF y n := by
  induction n with
  | zero => simp [kF]
  | succ n ih =>
    unfold kF
    cases x n <;> cases y n <;> simp <;> omega
theorem gone_le {s3 : Int} {n : Nat} (hs3 : 0 ≤ s3) : ∀ bs : List Bl, inN n bs → kF (goneF s3 n bs) n ≤ 2 * s3 * bs.length
  | [], _ => by
    have : goneF s3 n [] = fun _ => false := by funext p; rfl
    rw [this]
    have : ∀ m, kF (fun _ => false) m = 0 := fun m => by
      induction m with
      | zero => rfl
      | succ m ih => unfold kF; simp [ih]
    rw [this]
    simp
  | x :: bs, h => by
    have ih := gone_le hs3 bs (fun y hy => h y (List.mem_cons_of_mem _ hy))
    have hx := h x List.mem_cons_self
    have e : goneF s3 n (x :: bs) = fun p => (cA s3 x p || cB s3 n x p) || goneF s3 n bs p := by
      funext p
      simp [goneF]
    have h1 := kF_or_le (fun p => cA s3 x p || cB s3 n x p) (goneF s3 n bs) n
    have h2 := kF_or_le (cA s3 x) (cB s3 n x) n
    have h3 : kF (cA s3 x) n = min x.1 n - min (max 0 (x.1 - s3)) n := kF_span (by omega) (by omega) n
    have h4 : kF (cB s3 n x) n = min (min (x.2 + s3) n) n - min x.2 n := kF_span (by omega) (by omega) n
    rw [e]
    have e2 : 2 * s3 * ((x :: bs).length : Int) = 2 * s3 * bs.length + 2 * s3 := by
      rw [List.length_cons, Int.natCast_add, Int.mul_add]
      simp
    rw [e2]
    omega
theorem lenO_ok : ∀ {l : List St}, l.any badSt = false → lenO l = lenF l
  | [], _ => rfl
  | x :: l, h => by
    rw [List.any_cons, Bool.or_eq_false_iff] at h
    have hx := badSt_f h.1
    simp only [lenO, lenF, lenO_ok h.2]
    omega
/-- What the law asks of an account. -/
theorem acc_facts {l : List St} {s1 s2 s3 : Int} {bs : List Bl} {c1 c2 c3 : Int} (h : accF l s1 s2 s3 bs = ((c1, c2, c3), 0)) :
    c1 = lnB bs ∧ c1 + c2 + c3 = lenO l ∧ 0 ≤ c2 ∧ 0 ≤ c3 ∧ c2 ≤ 2 * s3 * bs.length ∧ inN (lenF l) bs ∧ lenF l ≤ 3000 ∧ 0 ≤ s3 ∧ s3 ≤ 20 := by
  unfold accF at h
  by_cases he : (totalF l s1 s2 s3 bs).2 = 0
  · rw [if_neg (by simp [he])] at h
    obtain ⟨hc, hr⟩ := totalF_ok he
    have hok := checkF_ok hc
    have hwl := wF_len l hok.2.1
    have hra := ac_ra hok.2.1 hr (by omega)
    injection h with h1
    have h1' := h1
    rw [hra] at h1'
    have hb1 := kF_bd (goneF s3 (wF l).length bs) (wF l).length
    have hb3 := kF_bd (fun p => !inF bs p && !cuF s3 bs p) (wF l).length
    have hin := rk_in hr
    have hg := gone_le (n := (wF l).length) (s3 := s3) (by omega) bs (by rw [hwl]; exact hin)
    have hlo := lenO_ok hok.2.1
    unfold acF at h1
    unfold raF at h1'
    injection h1 with e1 e2
    injection e2 with e2 e3
    injection h1' with g1 g2
    injection g2 with g2 g3
    refine ⟨e1.symm, by omega, by omega, by omega, by omega, hin, by omega, by omega, by omega⟩
  · rw [if_pos he] at h
    injection h with h1 h2
    exact absurd h2 he
theorem acc_zero {l : List St} {s1 s2 s3 : Int} {bs : List Bl} {c1 c2 c3 e : Int} (h : accF l s1 s2 s3 bs = ((c1, c2, c3), e)) (he : e ≠ 0) : c1 = 0 ∧ c2 = 0 ∧ c3 = 0 := by
  unfold accF at h
  split at h
  · injection h with h1 h2
    injection h1 with e1 e2
    injection e2 with e2 e3
    exact ⟨e1.symm, e2.symm, e3.symm⟩
  · injection h with h1 h2
    exact absurd h2.symm he

set_option maxRecDepth 100000 in
set_option maxHeartbeats 16000000 in
theorem accounts_mid (A : Option Addr) (n cap B : Nat) (l : List St) (s1 s2 s3 : Int) (A2 : Option Addr) (n2 cap2 : Nat) (a b c d p : Int) (w : World) (h : Sl eII 2 w B A n l) (hB : B ≤ w.heap.size) (hn : n ≤ 70) (hp : 0 ≤ p ∧ p ≤ 255)
    (wq : World) (hdl : DL w wq s1 s2 s3 A2 n2 cap2 a b c d p) (A7 : Option Addr) (n7 cap7 : Nat) (bs : List Bl) (h7 : Sl eII 2 wq wq.heap.size A7 n7 bs) (hn7 : n7 ≤ 3000)
    (u3 u6 u8 u9 u10 u11 u12 u13 u14 u15 u16 u17 u18 u19 u20 u21 u22 u23 u24 u25 u26 u27 u28 u29 u30 u31 u32 u33 u34 u35 u36 u37 u38 u39 u40 u41 u42 u43 u44 u45 u46 u47 u48 u49 u50 u51 u52 u53 u54 u55 u56 u57 u58 u59 u60 u61 u62 u63 u64 u65 u66 u67 u68 u69 u70 u71 u72 u73 u74 u75 u76 u77 u78 u79 u80 u81 u82 u83 u84 u85 u86 u87 u88 u89 u90 u91 u92 u93 u94 u95 u96 u97 u98 u99 u100 u101 u102 u103 u104 u105 u106 u107 u108 u109 u110 u111 u112 u113 u114 u115 u116 u117 u118 u119 u120 u121 u122 u123 u124 u125 u126 u127 u128 u129 u130 u131 u132 u133 u134 u135 u136 u137 u138 u139 u140 u141 u142 u143 u144 u145 u146 u147 u148 u149 u150 u151 u152 u153 u154 u155 u156 u157 u158 u159 u160 u161 u162 u163 u164 u165 u166 u167 u168 u169 u170 u171 u172 u173 u174 u175 u176 u177 u178 u179 u180 u181 u182 u183 u184 u185 u186 u187 u188 u189 u190 u191 u192 u193 u194 u195 : Value) :
    Code.wp Try.prog (codeSkip 4 (Try.f4.body.getD .skip)) (bodyPost Try.prog Try.f4 fun e w' => e = .returned (.bool true) ∧ Below w.heap.size w w')
      { tmps := #[.slice A n cap, .agg #[.int .i64 s1, .int .i64 s2, .int .i64 s3], .agg #[.slice A2 n2 cap2, .int .i64 a, .int .i64 b, .int .i64 c, .int .i64 d, .int .u8 p], u3, .pointer (some ⟨w.heap.size, 0, none⟩), .pointer (some ⟨w.heap.size + 1, 0, none⟩), u6, .slice A7 n7 cap7, u8, u9, u10, u11, u12, u13, u14, u15, u16, u17, u18, u19, u20, u21, u22, u23, u24, u25, u26, u27, u28, u29, u30, u31, u32, u33, u34, u35, u36, u37, u38, u39, u40, u41, u42, u43, u44, u45, u46, u47, u48, u49, u50, u51, u52, u53, u54, u55, u56, u57, u58, u59, u60, u61, u62, u63, u64, u65, u66, u67, u68, u69, u70, u71, u72, u73, u74, u75, u76, u77, u78, u79, u80, u81, u82, u83, u84, u85, u86, u87, u88, u89, u90, u91, u92, u93, u94, u95, u96, u97, u98, u99, u100, u101, u102, u103, u104, u105, u106, u107, u108, u109, u110, u111, u112, u113, u114, u115, u116, u117, u118, u119, u120, u121, u122, u123, u124, u125, u126, u127, u128, u129, u130, u131, u132, u133, u134, u135, u136, u137, u138, u139, u140, u141, u142, u143, u144, u145, u146, u147, u148, u149, u150, u151, u152, u153, u154, u155, u156, u157, u158, u159, u160, u161, u162, u163, u164, u165, u166, u167, u168, u169, u170, u171, u172, u173, u174, u175, u176, u177, u178, u179, u180, u181, u182, u183, u184, u185, u186, u187, u188, u189, u190, u191, u192, u193, u194, u195], defers := [] } wq := by
  conv => arg 2; whnf
  dsimp only
  have HDL := Lib.hid hdl
  have hlen := h.len
  have hlen7 := h7.len
  obtain ⟨c1, c2, c3, ae, hA⟩ : ∃ c1 c2 c3 ae : Int, accF l s1 s2 s3 bs = ((c1, c2, c3), ae) := ⟨_, _, _, _, rfl⟩
  have HA := Lib.hid hA
  have OW := Lib.hid (fun W (hb : Below wq.heap.size wq W) => own_any A n cap B l W (h.below ((thru HDL.out.2.2 hb).mono hB)) (Nat.le_trans hB (thru HDL.out.2.2 hb).size) (by omega))
  have LI := Lib.hid (fun W (hb : Below wq.heap.size wq W) => list_any A7 n7 cap7 wq.heap.size bs W (h7.below hb) hb.size (by omega))
  have AA := Lib.hid (fun W A5 n5 cap5 (h5 : Sl eII 2 W W.heap.size A5 n5 l) (hn5 : n5 ≤ 1000000) A6 n6 cap6 (h6 : Sl eII 2 W W.heap.size A6 n6 bs) (hn6 : n6 ≤ 100000) => account_any A5 n5 cap5 W.heap.size l s1 s2 s3 A6 n6 cap6 W.heap.size bs W h5 (Nat.le_refl _) hn5 h6 (Nat.le_refl _) hn6)
  rw [hA] at AA
  unfold acV at AA
  simp only at AA
  have SK := Lib.hid (fun W (hW : Below wq.heap.size wq W) => show W.cell? ⟨w.heap.size, 0, none⟩ = some (.int .i64 s1) ∧ W.cell? ⟨w.heap.size, 1, none⟩ = some (.int .i64 s2) ∧ W.cell? ⟨w.heap.size, 2, none⟩ = some (.int .i64 s3) from (HDL.out.below hW).1.c3.1)
  have LO := Lib.hid (fun W (hb : Below wq.heap.size wq W) => lengthOf_any A n cap B l W (h.below ((thru HDL.out.2.2 hb).mono hB)) (by omega))
  have H7 := Lib.hid h7
  have lbi : Below wq.heap.size wq wq := Below.refl _ _
  clear hA hdl h7
  go_upto_region 6 with fail
  go_cut [8, 9] (fun s8 s9 wx => ∃ g : Nat, s8 = .pointer (some ⟨g, 0, none⟩) ∧ s9 = .int .i64 ae ∧ Bk wx g 45 #[.int .i64 c1, .int .i64 c2, .int .i64 c3] ∧ Below wq.heap.size wq wx)
  case first =>
    go_region_held3 (fun W => W.cell? ⟨w.heap.size, 0, none⟩ = some (.int .i64 s1) ∧ W.cell? ⟨w.heap.size, 1, none⟩ = some (.int .i64 s2) ∧ W.cell? ⟨w.heap.size, 2, none⟩ = some (.int .i64 s3)) ((refine SK.out _ ?_; repeat (first | (with_reducible exact lb2) | (with_reducible exact lbL) | (with_reducible exact lbO) | (with_reducible exact lbi) | (with_reducible apply bdr) | (with_reducible apply ba) | (with_reducible refine Go.Proofs.Ytlkfcbdbieenhaa.bs ?_ (by simp <;> omega))))) (first
      | (go_at_call 16; (with_reducible refine (OW.out _ (by repeat (first | (with_reducible exact lbL) | (with_reducible exact lbO) | (with_reducible exact lbi) | (with_reducible apply ba) | (with_reducible apply bdr)))).mono ?_); rintro e wO ⟨A5, n5, cap5, rfl, hown5, hb5⟩; have lbO : Below wq.heap.size wq wO := thru (by repeat (first | (with_reducible exact lbL) | (with_reducible exact lbO) | (with_reducible exact lbi) | (with_reducible apply ba) | (with_reducible apply bdr))) hb5; have hsO := lbO.size; have hslO := hown5.sl enc2; have hnO : n5 ≤ 1000000 := (by (have := hslO.len; omega)); (first | (have bLO : Below wL.heap.size wL wO := thru (by repeat (first | (with_reducible exact bLO) | (with_reducible exact Below.refl _ _) | (with_reducible apply ba) | (with_reducible apply bdr))) hb5) | skip); (first | (have kq := kq.below hb5 kq.lt; obtain ⟨⟨k0, k1, k2⟩, ⟨f0, f1, f2⟩⟩ := kq.c3) | (have kq := (Bk.newAt _ #[.int .i64 0, .int .i64 0, .int .i64 0] 45 _ rfl).drew.below hb5 (by simp); obtain ⟨⟨k0, k1, k2⟩, ⟨f0, f1, f2⟩⟩ := kq.c3) | (have kq := (Bk.newAt _ #[.int .i64 0, .int .i64 0, .int .i64 0] 45 _ rfl).below hb5 (by simp); obtain ⟨⟨k0, k1, k2⟩, ⟨f0, f1, f2⟩⟩ := kq.c3) | skip); dsimp only)
      | (go_at_call 20; (with_reducible refine (LI.out _ (by repeat (first | (with_reducible exact lbL) | (with_reducible exact lbO) | (with_reducible exact lbi) | (with_reducible apply ba) | (with_reducible apply bdr)))).mono ?_); rintro e wL ⟨A6, n6, cap6, rfl, hown6, hb6⟩; have lbL : Below wq.heap.size wq wL := thru (by repeat (first | (with_reducible exact lbL) | (with_reducible exact lbO) | (with_reducible exact lbi) | (with_reducible apply ba) | (with_reducible apply bdr))) hb6; have hsL := lbL.size; have hslL := hown6.sl enc2; have hnL : n6 ≤ 100000 := (by (have := hslL.len; omega)); (first | (have bOL : Below wO.heap.size wO wL := thru (by repeat (first | (with_reducible exact bOL) | (with_reducible exact Below.refl _ _) | (with_reducible apply ba) | (with_reducible apply bdr))) hb6) | skip); (first | (have kq := kq.below hb6 kq.lt; obtain ⟨⟨k0, k1, k2⟩, ⟨f0, f1, f2⟩⟩ := kq.c3) | (have kq := (Bk.newAt _ #[.int .i64 0, .int .i64 0, .int .i64 0] 45 _ rfl).drew.below hb6 (by simp); obtain ⟨⟨k0, k1, k2⟩, ⟨f0, f1, f2⟩⟩ := kq.c3) | (have kq := (Bk.newAt _ #[.int .i64 0, .int .i64 0, .int .i64 0] 45 _ rfl).below hb6 (by simp); obtain ⟨⟨k0, k1, k2⟩, ⟨f0, f1, f2⟩⟩ := kq.c3) | skip); dsimp only)
      | (go_at_call 22; refine (AA.out _ A5 n5 cap5 ?_ hnO A6 n6 cap6 ?_ hnL).mono ?_; (focus exact hslO.atW (by repeat (first | (with_reducible exact bOL) | (with_reducible exact Below.refl _ _) | (with_reducible apply ba) | (with_reducible apply bdr)))); (focus exact hslL.atW (by repeat (first | (with_reducible exact bLO) | (with_reducible exact Below.refl _ _) | (with_reducible apply ba) | (with_reducible apply bdr)))); rintro e w2 ⟨rfl, hb2⟩; have lb2 : Below wq.heap.size wq w2 := thru (by repeat (first | (with_reducible exact lbL) | (with_reducible exact lbO) | (with_reducible exact lbi) | (with_reducible apply ba) | (with_reducible apply bdr))) hb2; (first | (have kq := kq.below hb2 kq.lt; obtain ⟨⟨k0, k1, k2⟩, ⟨f0, f1, f2⟩⟩ := kq.c3) | (have kq := (Bk.newAt _ #[.int .i64 0, .int .i64 0, .int .i64 0] 45 _ rfl).drew.below hb2 (by simp); obtain ⟨⟨k0, k1, k2⟩, ⟨f0, f1, f2⟩⟩ := kq.c3) | (have kq := (Bk.newAt _ #[.int .i64 0, .int .i64 0, .int .i64 0] 45 _ rfl).below hb2 (by simp); obtain ⟨⟨k0, k1, k2⟩, ⟨f0, f1, f2⟩⟩ := kq.c3) | skip); dsimp only))
    all_goals
      first
        | (have fin := Bk.newAt w2 #[.int .i64 c1, .int .i64 c2, .int .i64 c3] 45 w2.heap.size rfl
           have fin2 := ba (o := .cells #[.int .i64 c1, .int .i64 c2, .int .i64 c3] 45) lb2
           go_wp2_with fail
           go_meet
           exact ⟨w2.heap.size, rfl, rfl, fin, fin2⟩)
        | (have fin := ((kq.put 0 (.int .i64 c1) #[.int .i64 c1, .int .i64 0, .int .i64 0] rfl).put 1 (.int .i64 c2) #[.int .i64 c1, .int .i64 c2, .int .i64 0] rfl).put 2 (.int .i64 c3) #[.int .i64 c1, .int .i64 c2, .int .i64 c3] rfl
           have hgq : wq.heap.size ≤ _ := (by (first | exact Nat.le_refl _ | exact hsO | exact hsL))
           go_wp2_with fail
           go_meet
           exact ⟨_, rfl, rfl, fin, Go.Proofs.Ytlkfcbdbieenhaa.bs (Go.Proofs.Ytlkfcbdbieenhaa.bs (Go.Proofs.Ytlkfcbdbieenhaa.bs lb2 (by first | exact Nat.le_refl _ | exact hsO | exact hsL)) (by first | exact Nat.le_refl _ | exact hsO | exact hsL)) (by first | exact Nat.le_refl _ | exact hsO | exact hsL)⟩)
  case rest =>
    rename_i hK
    obtain ⟨g, rfl, rfl, kg, hbc⟩ := hcut
    have HKG := Lib.hid kg
    have HDC := Lib.hid (HDL.out.below hbc)
    have HLO := Lib.hid (LO.out wc hbc)
    have h7c := (H7.out.below hbc)
    have hszc := hbc.size
    refine hK _ _ ?_
    refine wp_seq_k ?_
    intro K5 hK5
    have FIN := Lib.hid (fun W (hb : Below wc.heap.size wc W) => HDC.out.below hb)
    obtain ⟨⟨y0, y1, y2⟩, -⟩ := kg.c3
    by_cases he : ae = 0
    · subst he
      obtain ⟨hf1, hf2, hf3, hf4, hf5, hf6, hf7, hf8, hf9⟩ := acc_facts HA.out
      have HIN := Lib.hid hf6
      have HF1 := Lib.hid hf1
      have HF2 := Lib.hid hf2
      have hll := lnB_bd hf6
      have hb2 : lenF l * (bs.length : Int) ≤ 3000 * 3000 := Int.mul_le_mul (by omega) (by omega) (by omega) (by omega)
      have hcb : 0 ≤ c1 ∧ c1 ≤ 9000000 := by omega
      have hlo : 0 ≤ lenO l ∧ lenO l ≤ 280000 := by have := lenO_bd l; omega
      rw [hlen7] at hf5
      have hmul : 0 ≤ 2 * s3 * (n7 : Int) ∧ 2 * s3 * (n7 : Int) ≤ 40 * 3000 := ⟨Int.mul_nonneg (by omega) (by omega), Int.mul_le_mul (by omega) (by omega) (by omega) (by omega)⟩
      clear hf1 hf2 hf6 hll hb2 y0 y1 y2 kg lbi hK
      go_upto_block 0 with fail
      go_cut [10, 11] (fun s10 s11 wx => s10 = .int .i64 c1 ∧ Below wc.heap.size wc wx)
      case first =>
        go_wp2_with fail
        go_loopw [10, 11] (fun sm v wr => ∃ k : Nat, k ≤ n7 ∧ v = .int .i64 k ∧ sm = .int .i64 (lnB (bs.take k)) ∧ Below wc.heap.size wc wr) (fun _ v _ => n7 - (intOf v).toNat)
        case atStart => exact ⟨0, Nat.zero_le _, rfl, rfl, Below.refl _ _⟩
        case round =>
          obtain ⟨k, hk, rfl, rfl, hbr⟩ := hrel
          have hsub : ∀ m, inN (lenF l) (bs.take m) := fun m x hx => HIN.out x (List.mem_of_mem_take hx)
          have hl1 := lnB_bd (hsub k)
          have htl : (bs.take k).length ≤ k := List.length_take_le _ _
          have hl2 : lenF l * ((bs.take k).length : Int) ≤ 3000 * 3000 := Int.mul_le_mul (by omega) (by omega) (by omega) (by omega)
          have hl3 : 0 ≤ lnB (bs.take k) ∧ lnB (bs.take k) ≤ 9000000 := by omega
          by_cases hlt : k < n7
          · obtain ⟨x, hx⟩ := h7c.get hlt
            obtain ⟨b', off, rfl, hb, d1, d2⟩ := (h7c.below (hbr.mono hszc)).at2 hx
            have hxn := HIN.out x (List.mem_of_getElem? hx)
            have HS := Lib.hid (show lnB (bs.take (k + 1)) = lnB (bs.take k) + (x.2 - x.1) by rw [take_snoc hx, lnB_snoc])
            obtain ⟨x1, x2⟩ := x
            simp only at d1 d2 hxn HS
            clear hx hl1 hl2 htl hsub
            generalize lnB (bs.take k) = sb at *
            go_wp2
            go_quiet (fail)
            go_wp2
            go_roundw
            case rel => exact ⟨k + 1, by omega, by go_num, by rw [HS.out], below_drewN hbr _⟩
            case measure => simp [intOf]; omega
          · have ht : bs.take k = bs := List.take_of_length_le (by omega)
            rw [ht, ← HF1.out] at hl3 ⊢
            clear hl1 hl2 htl hsub
            go_wp2
            go_meet
            exact ⟨rfl, hbr⟩
      case rest =>
        obtain ⟨rfl, hbx⟩ := hcut
        have dl3 := HDC.out.below hbx
        have kg3 := HKG.out.below hbx HKG.out.lt
        have lbq := thru hbc hbx
        have LX := Lib.hid (fun W (hb : Below wc.heap.size wc W) => (LO.out W (thru lbq hb)).mono (R' := fun e w' => e = .returned (.int .i64 (lenO l)) ∧ Below W.heap.size W w') fun _ _ hx => ⟨hx.1, hx.2 ▸ Below.refl _ _⟩)
        have hlg := kg3.lt
        have hls := dl3.1.lt
        obtain ⟨⟨y0, y1, y2⟩, -⟩ := kg3.c3
        obtain ⟨⟨x0, x1, x2⟩, -⟩ := dl3.1.c3
        have q0 := fun m : After wc => m.cell hlg y0
        have q1 := fun m : After wc => m.cell hlg y1
        have q2 := fun m : After wc => m.cell hlg y2
        have q3 := fun m : After wc => m.cell hls x2
        have t1 : (c1 + c2 + c3 != lenO l) = false := by rw [HF2.out]; simp
        have t1' : decide (c1 + c2 + c3 = lenO l) = true := by rw [HF2.out]; simp
        have t2 : decide (c2 < 0) = false := decide_eq_false (by omega)
        have t3 : decide (c3 < 0) = false := decide_eq_false (by omega)
        have t4 : decide (2 * s3 * (n7 : Int) < c2) = false := decide_eq_false (by omega)
        have hc12 : 0 ≤ c1 + c2 ∧ c1 + c2 ≤ 280000 := by have := HF2.out; omega
        have hc123 : 0 ≤ c1 + c2 + c3 ∧ c1 + c2 + c3 ≤ 280000 := by have := HF2.out; omega
        have HDX := Lib.hid dl3
        have HK5 := Lib.hid hK5
        clear hK5 dl3 kg3 y0 y1 y2 x0 x1 x2 h7c
        go_wp2_with fail
        refine wp_region_after (by kernel_rfl) (by kernel_rfl) ?_
        repeat (go_big_quiet_step ((go_at_call 21; exact Calls.after (LX.out _ (After.bel _)))))
        refine wpQuiet_nil ?_
        rintro W ⟨⟨_, hW⟩, rfl⟩
        go_wp2
        exact HK5.out _ _ (accounts_end A n cap s1 s2 s3 A2 n2 cap2 a b c d p w hp _ (HDX.out.below hW) _ _ _ _ _ _ _ _ _ _ _ _ _ _ _ _ _ _ _ _ _ _ _ _ _ _ _ _ _ _ _ _ _ _ _ _ _ _ _ _ _ _ _ _ _ _ _ _ _ _ _ _ _ _ _ _ _ _ _ _ _ _ _ _ _ _ _ _ _ _ _ _ _ _ _ _ _ _ _ _ _ _ _ _ _ _ _ _ _ _ _ _ _ _ _ _ _ _ _ _ _ _ _ _ _ _ _ _ _ _ _ _ _ _ _ _ _ _ _ _ _ _ _ _ _ _ _ _ _ _ _ _ _ _ _ _ _ _ _ _ _ _ _ _ _ _ _ _ _ _ _ _ _ _ _ _ _ _ _ _ _ _ _ _ _ _ _ _ _ _ _ _ _ _ _ _ _ _ _ _ _ _ _ _ _ _ _ _ _ _ _)
    · obtain ⟨rfl, rfl, rfl⟩ := acc_zero HA.out he
      have e1 : (ae == 0) = false := by simpa using he
      have e2 : decide (ae = 0) = false := by simpa using he
      have HK5 := Lib.hid hK5
      clear hK5 hK kg lbi
      go_wp2
      exact HK5.out _ _ (accounts_end A n cap s1 s2 s3 A2 n2 cap2 a b c d p w hp _ HDC.out _ _ _ _ _ _ _ _ _ _ _ _ _ _ _ _ _ _ _ _ _ _ _ _ _ _ _ _ _ _ _ _ _ _ _ _ _ _ _ _ _ _ _ _ _ _ _ _ _ _ _ _ _ _ _ _ _ _ _ _ _ _ _ _ _ _ _ _ _ _ _ _ _ _ _ _ _ _ _ _ _ _ _ _ _ _ _ _ _ _ _ _ _ _ _ _ _ _ _ _ _ _ _ _ _ _ _ _ _ _ _ _ _ _ _ _ _ _ _ _ _ _ _ _ _ _ _ _ _ _ _ _ _ _ _ _ _ _ _ _ _ _ _ _ _ _ _ _ _ _ _ _ _ _ _ _ _ _ _ _ _ _ _ _ _ _ _ _ _ _ _ _ _ _ _ _ _ _ _ _ _ _ _ _ _ _ _ _ _ _ _)

set_option maxRecDepth 100000 in
set_option maxHeartbeats 16000000 in
theorem accounts_any (A : Option Addr) (n cap B : Nat) (l : List St) (s1 s2 s3 : Int) (A2 : Option Addr) (n2 cap2 B2 : Nat) (bs : List Bl) (a b c d p : Int) (w : World) (h : Sl eII 2 w B A n l) (hB : B ≤ w.heap.size)
    (h2 : Sl eII 2 w B2 A2 n2 bs) (hB2 : B2 ≤ w.heap.size) (hp : 0 ≤ p ∧ p ≤ 255) :
    Calls Try.prog 4 #[.slice A n cap, .agg #[.int .i64 s1, .int .i64 s2, .int .i64 s3], .agg #[.slice A2 n2 cap2, .int .i64 a, .int .i64 b, .int .i64 c, .int .i64 d, .int .u8 p]] w fun e w' => e = .returned (.bool true) ∧ Below w.heap.size w w' := by
  have hlen := h.len
  have hlen2 := h2.len
  have KN := Lib.hid (fun W => known_any W)
  have D0 := Lib.hid (show DL w ((w.alloc (.cells #[.int .i64 s1, .int .i64 s2, .int .i64 s3] 24)).alloc (.cells #[.slice A2 n2 cap2, .int .i64 a, .int .i64 b, .int .i64 c, .int .i64 d, .int .u8 p] 42)) s1 s2 s3 A2 n2 cap2 a b c d p from
    ⟨(Bk.newAt w _ _ _ rfl).alloc _, Bk.newAt _ _ _ _ (by simp), ba (ba (Below.refl _ _))⟩)
  by_cases g1 : 70 < n
  · have hi : (70 : Int) < n := by omega
    go_enter Try.func4, Try.ntmps4
    go_wp2_with (go_at_call 14; refine (KN.out _).mono ?_; rintro e w1 ⟨rfl, hb1⟩)
    go_ret
    exact ⟨rfl, thru D0.out.2.2 hb1⟩
  have hi : decide ((70 : Int) < n) = false := by simp; omega
  by_cases g2 : 40 < n2
  · have hi2 : (40 : Int) < n2 := by omega
    go_enter Try.func4, Try.ntmps4
    go_wp2_with (go_at_call 14; refine (KN.out _).mono ?_; rintro e w1 ⟨rfl, hb1⟩)
    go_ret
    exact ⟨rfl, thru D0.out.2.2 hb1⟩
  have hi2 : decide ((40 : Int) < n2) = false := by simp; omega
  have LI := Lib.hid (fun W (hb : Below w.heap.size w W) => list_any A2 n2 cap2 B2 bs W (h2.below (hb.mono hB2)) (Nat.le_trans hB2 hb.size) (by omega))
  go_enter Try.func4, Try.ntmps4
  go_upto_region 3 with fail
  go_cut [7] (fun s7 wx => ∃ (A7 : Option Addr) (cap7 : Nat), s7 = .slice A7 n2 cap7 ∧ Sl eII 2 wx wx.heap.size A7 n2 bs ∧ DL w wx s1 s2 s3 A2 n2 cap2 a b c d p)
  case first =>
    go_wp2_with (go_at_call 20; refine (LI.out _ D0.out.2.2).mono ?_; rintro e w2 ⟨A7, n7, cap7, rfl, hown7, hb2⟩; have hsl7 := hown7.sl enc2; obtain rfl : n7 = n2 := (by (have := hsl7.len; omega)); have dl2 := D0.out.below hb2)
    go_meet
    exact ⟨A7, cap7, rfl, hsl7, dl2⟩
  case rest =>
    rename_i hK
    obtain ⟨A7, cap7, rfl, hsl7, dl⟩ := hcut
    have HDL := Lib.hid dl
    have HS7 := Lib.hid hsl7
    have LO := Lib.hid (lengthOf_any A n cap B l wc (h.below (dl.2.2.mono hB)) (by omega))
    refine hK _ _ ?_
    refine wp_seq_k ?_
    intro K5 hK5
    have HK5 := Lib.hid hK5
    clear hK5 hK hsl7
    by_cases hz : n2 = 0
    · have hz1 : ((n2 : Int) == 0) = true := by simp [hz]
      have hz2 : decide ((n2 : Int) = 0) = true := by simp [hz]
      by_cases h6 : lenO l ≤ 600
      · have OW := Lib.hid (own_any A n cap B l wc.drew (h.below ((bdr dl.2.2).mono hB)) (Nat.le_trans hB dl.2.2.size) (by omega))
        have BE := Lib.hid (fun W A5 n5 cap5 (ho : Sl eII 2 W W.heap.size A5 n5 l) (h5 : n5 ≤ 1000000) => best_any A5 n5 cap5 W.heap.size l s1 s2 s3 W ho (Nat.le_refl _) h5)
        have SK := Lib.hid (fun W (hW : Below wc.heap.size wc W) => show W.cell? ⟨w.heap.size, 0, none⟩ = some (.int .i64 s1) ∧ W.cell? ⟨w.heap.size, 1, none⟩ = some (.int .i64 s2) ∧ W.cell? ⟨w.heap.size, 2, none⟩ = some (.int .i64 s3) from (HDL.out.below hW).1.c3.1)
        have lbi : Below wc.heap.size wc wc := Below.refl _ _
        subst hz
        clear dl
        go_upto_region 5 with (go_at_call 21; refine LO.out.mono ?_; rintro e w2 ⟨rfl, rfl⟩)
        go_region_held3 (fun W => W.cell? ⟨w.heap.size, 0, none⟩ = some (.int .i64 s1) ∧ W.cell? ⟨w.heap.size, 1, none⟩ = some (.int .i64 s2) ∧ W.cell? ⟨w.heap.size, 2, none⟩ = some (.int .i64 s3)) ((refine SK.out _ ?_; repeat (first | (with_reducible exact lb2) | (with_reducible exact lb1) | (with_reducible exact lbi) | (with_reducible apply bdr)))) (first
          | (go_at_call 16; (with_reducible refine OW.out.mono ?_); rintro e w1 ⟨A5, n5, cap5, rfl, hown5, hb1⟩; have lb1 := thru (bdr lbi) hb1; have hsl5 := hown5.sl enc2; have hn5 : n5 ≤ 1000000 := (by (have := hsl5.len; omega)); dsimp only)
          | (go_at_call 15; (with_reducible refine (BE.out w1 A5 n5 cap5 hsl5 hn5).mono ?_); rintro e w2 ⟨A6, n6, cap6, rfl, hown6, hn6, hb2⟩; have lb2 := thru lb1 hb2; have hsl6 := hown6.sl enc2; dsimp only))
        all_goals
          have HS6 := Lib.hid hsl6
          have HL2 := Lib.hid lb2
          clear hown5 hsl5 hown6 hsl6 hb1 hb2 lb1 lb2 lbi
          go_wp2_with fail
          exact HK5.out _ _ (accounts_mid A n cap B l s1 s2 s3 A2 0 cap2 a b c d p w h hB (by omega) hp _ (HDL.out.below HL2.out) A6 n6 cap6 (bestL l s1 s2 s3) HS6.out hn6 _ _ _ _ _ _ _ _ _ _ _ _ _ _ _ _ _ _ _ _ _ _ _ _ _ _ _ _ _ _ _ _ _ _ _ _ _ _ _ _ _ _ _ _ _ _ _ _ _ _ _ _ _ _ _ _ _ _ _ _ _ _ _ _ _ _ _ _ _ _ _ _ _ _ _ _ _ _ _ _ _ _ _ _ _ _ _ _ _ _ _ _ _ _ _ _ _ _ _ _ _ _ _ _ _ _ _ _ _ _ _ _ _ _ _ _ _ _ _ _ _ _ _ _ _ _ _ _ _ _ _ _ _ _ _ _ _ _ _ _ _ _ _ _ _ _ _ _ _ _ _ _ _ _ _ _ _ _ _ _ _ _ _ _ _ _ _ _ _ _ _ _ _ _ _ _ _ _ _ _ _ _ _ _ _ _ _ _ _ _)
      · have h6' : decide (lenO l ≤ 600) = false := decide_eq_false h6
        subst hz
        clear dl
        go_wp2_with (go_at_call 21; refine LO.out.mono ?_; rintro e w2 ⟨rfl, rfl⟩)
        exact HK5.out _ _ (accounts_mid A n cap B l s1 s2 s3 A2 0 cap2 a b c d p w h hB (by omega) hp _ HDL.out A7 0 cap7 bs HS7.out (by omega) _ _ _ _ _ _ _ _ _ _ _ _ _ _ _ _ _ _ _ _ _ _ _ _ _ _ _ _ _ _ _ _ _ _ _ _ _ _ _ _ _ _ _ _ _ _ _ _ _ _ _ _ _ _ _ _ _ _ _ _ _ _ _ _ _ _ _ _ _ _ _ _ _ _ _ _ _ _ _ _ _ _ _ _ _ _ _ _ _ _ _ _ _ _ _ _ _ _ _ _ _ _ _ _ _ _ _ _ _ _ _ _ _ _ _ _ _ _ _ _ _ _ _ _ _ _ _ _ _ _ _ _ _ _ _ _ _ _ _ _ _ _ _ _ _ _ _ _ _ _ _ _ _ _ _ _ _ _ _ _ _ _ _ _ _ _ _ _ _ _ _ _ _ _ _ _ _ _ _ _ _ _ _ _ _ _ _ _ _ _)
    · have hz1 : ((n2 : Int) == 0) = false := by simp; omega
      have hz2 : decide ((n2 : Int) = 0) = false := by simp; omega
      have hz3 : decide (n2 = 0) = false := by simp; omega
      clear dl
      go_wp2_with fail
      exact HK5.out _ _ (accounts_mid A n cap B l s1 s2 s3 A2 n2 cap2 a b c d p w h hB (by omega) hp _ HDL.out A7 n2 cap7 bs HS7.out (by omega) _ _ _ _ _ _ _ _ _ _ _ _ _ _ _ _ _ _ _ _ _ _ _ _ _ _ _ _ _ _ _ _ _ _ _ _ _ _ _ _ _ _ _ _ _ _ _ _ _ _ _ _ _ _ _ _ _ _ _ _ _ _ _ _ _ _ _ _ _ _ _ _ _ _ _ _ _ _ _ _ _ _ _ _ _ _ _ _ _ _ _ _ _ _ _ _ _ _ _ _ _ _ _ _ _ _ _ _ _ _ _ _ _ _ _ _ _ _ _ _ _ _ _ _ _ _ _ _ _ _ _ _ _ _ _ _ _ _ _ _ _ _ _ _ _ _ _ _ _ _ _ _ _ _ _ _ _ _ _ _ _ _ _ _ _ _ _ _ _ _ _ _ _ _ _ _ _ _ _ _ _ _ _ _ _ _ _ _ _ _)
end Go.Proofs.Ytlkfcbdbieenhaa
