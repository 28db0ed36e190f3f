/-
  The law CropUpper holds (walked by names).
-/
import Derived.Test.YtlkfcbdbieenhaaCropP5
set_option linter.unusedSimpArgs false
set_option linter.unusedVariables false
namespace Go.Proofs.Ytlkfcbdbieenhaa
open Go.RowKit Go.Vm
set_option maxRecDepth 100000

theorem list_f (n : Nat) (l : List St) (hn : l.length = n) (hb : n ≤ 1000000) {h : AH} {s : Value} (h0 : h.sees 0 = true) (r : Rd h s n (rows eII l)) : Fc Try.prog 20 [s] h (.slice (some ⟨h.next, 0, none⟩) n openB) (h.new (.cells ⟨rows eII l, 2, true⟩)) := by
  refine lift_own (mk := id) (fun c => ?_) (rows_no (f := eII) l) (rows_no (f := eII) l) rfl (fun _ _ => rfl) (fun _ _ _ h => h) h0 r
  rw [H1_new]
  refine Fc.ofOwn (h := H1 (rows eII l)) (mk := id) (e := 49) (sz := 2) (xs := rows eII l) (rows_no (f := eII) l) (fun _ _ _ => rfl) (fun _ _ _ h => h) ⟨_, _, Try.func20, rfl⟩ fun w0 φ κ w R ha => ?_
  obtain ⟨A, cap, e1, hs⟩ := Rel.sl (enc := eII) (xs := l) R (k := 1) (n := n) (cp := c) (H1_get _) (by omega) (ha _ (by simp)) hn
  simp only [List.map_cons, List.map_nil, e1]
  refine (list_any A n cap w.heap.size l w hs (Nat.le_refl _) hb).mono ?_
  rintro en w' ⟨A', n', cap', rfl, ho, hbl⟩
  have hn' := ho.1
  obtain rfl : n' = n := by omega
  exact ⟨A', cap', rfl, ho.2, hbl⟩

theorem total_f (n : Nat) (l : List St) (k1 k2 k3 : Int) (nb : Nat) (bs : List Bl) (hn : l.length = n) (hb : n ≤ 1000000) (hnb : bs.length = nb) (hbb : nb ≤ 100000) {h : AH} {s t : Value} (h0 : h.sees 0 = true) (r : Rd h s n (rows eII l)) (r2 : Rd h t nb (rows eII bs)) :
    Fc Try.prog 25 [s, sawV k1 k2 k3, t] h (.tuple #[.int .i64 (totalF l k1 k2 k3 bs).1, .int .i64 (totalF l k1 k2 k3 bs).2]) h := by
  refine Fc.lift2 (mk := fun ss => ss.take 1 ++ [sawV k1 k2 k3] ++ ss.drop 1) (mkv := fun _ => .tuple #[.int .i64 (totalF l k1 k2 k3 bs).1, .int .i64 (totalF l k1 k2 k3 bs).2]) (os := []) (fun c d => ?_) (MkL.split rfl) (MkV.const rfl) (rows_no (f := eII) l) (rows_no (f := eII) bs) (fun o ho => by cases ho) h0 r r2
  refine Fc.ofPlain rfl ⟨_, _, Try.func25, rfl⟩ fun w0 φ κ w R ha => ?_
  obtain ⟨A, cap, e1, hs⟩ := Rel.sl (enc := eII) (xs := l) R (k := 1) (n := n) (cp := c) (Hp_get 1) (by omega) (ha _ (by simp)) hn
  obtain ⟨A2, cap2, e2, hs2⟩ := Rel.sl (enc := eII) (xs := bs) R (k := 2) (n := nb) (cp := d) (Hp_get 2) (by omega) (ha _ (by simp)) hnb
  have e3 : Vm.ren φ κ (sawV k1 k2 k3) = sawV k1 k2 k3 := ren_noAddr _ _ _ rfl
  simp only [List.take_succ_cons, List.take_zero, List.drop_succ_cons, List.drop_zero, List.cons_append, List.nil_append, List.map_cons, List.map_nil, e1, e2, e3]
  exact bigTotal_any A n cap w.heap.size l k1 k2 k3 A2 nb cap2 w.heap.size bs w hs (Nat.le_refl _) hb hs2 (Nat.le_refl _) hbb

theorem best_bad {l : List St} {k1 k2 k3 : Int} (h : checkF l (k1, k2, k3) ≠ 0) : bestL l k1 k2 k3 = [] ∧ bestT l k1 k2 k3 = 0 ∧ bndL l k1 k2 k3 = [] := ⟨if_neg h, if_neg h, if_neg h⟩
theorem lenO_okU : ∀ {l : List St}, l.any badSt = false → lenO l = lenF l
  | [], _ => rfl
  | x :: l, h => by
    rw [List.any_cons, Bool.or_eq_false_iff] at h
    have hx := badSt_f h.1
    simp only [lenO, lenF, lenO_okU h.2]
    omega
theorem bwF_len (T : Nat → Rs) (s3 : Int) (n : Nat) : ∀ k p, (bwF T s3 n k p).length ≤ k
  | 0, _ => by simp [bwF]
  | k + 1, p => by
    unfold bwF
    split
    · rw [List.length_cons]; have := bwF_len T s3 n k (min ((T p).2.2.2 + s3) n).toNat; omega
    · simp
theorem bestL_len (l : List St) (k1 k2 k3 : Int) : (bestL l k1 k2 k3).length ≤ (wF l).length + 1 := by
  unfold bestL
  split
  · exact bwF_len _ _ _ _ _
  · simp
/- boule/boulelaw07.CropUpper · slots 181 · names 0:l 1:s 2:t 3:l 4:s 5:t 7:best 8:total 9:e 10:bounds 11:f 12:n 13:g 14:ok 15:h 16:n 17:g 18:ok 19:h · results [6] -/
def ir9_r0 : IC := .reg [⟨some 4, none, false, .box (.t 1)⟩,
  ⟨some 5, none, false, .box (.t 2)⟩,
  ⟨some 6, none, false, .mv (.k (.bool false))⟩] (some [0, 4, 5])
def ir9_r1 : IC := .reg [⟨some 20, none, false, .mv (.t 0)⟩,
  ⟨some 21, none, false, .len (.t 20)⟩,
  ⟨some 22, none, false, .cmp .gtr (.t 21) (.k (.int .i64 70))⟩,
  ⟨some 23, none, false, .mv (.t 22)⟩,
  ⟨some 24, some (23, false), false, .fad 0 (.t 5)⟩,
  ⟨some 25, some (23, false), false, .ldc (.t 24)⟩,
  ⟨some 26, some (23, false), false, .len (.t 25)⟩,
  ⟨some 27, some (23, false), false, .cmp .gtr (.t 26) (.k (.int .i64 40))⟩,
  ⟨some 28, none, false, .pick (.t 23) (.k (.bool true)) (.t 27)⟩,
  ⟨some 29, none, false, .mv (.t 28)⟩,
  ⟨some 30, some (29, false), false, .fad 1 (.t 5)⟩,
  ⟨some 31, some (29, false), false, .ldc (.t 30)⟩,
  ⟨some 32, some (29, false), false, .len (.t 31)⟩,
  ⟨some 33, some (29, false), false, .cmp .gtr (.t 32) (.k (.int .i64 700))⟩,
  ⟨some 34, none, false, .pick (.t 29) (.k (.bool true)) (.t 33)⟩,
  ⟨some 35, none, false, .mv (.t 34)⟩,
  ⟨some 36, some (35, false), false, .mv (.t 0)⟩,
  ⟨some 37, some (35, false), false, .call (.f 21) [(.t 36)]⟩,
  ⟨some 38, some (35, false), false, .cmp .gtr (.t 37) (.k (.int .i64 600))⟩,
  ⟨some 39, none, false, .pick (.t 35) (.k (.bool true)) (.t 38)⟩] (some [0, 4, 5, 39])
def ir9_r2 : IC := .reg [⟨some 40, none, false, .call (.f 14) []⟩,
  ⟨some 6, none, false, .mv (.t 40)⟩] (some [6])
def ir9_1 : IC := .seq ir9_r2 .ret
def ir9_2 : IC := .cond (.t 39) ir9_1 .skip
def ir9_3 : IC := .seq ir9_r1 ir9_2
def ir9_r3 : IC := .draw [(⟨some 42, none, false, .mv (.t 0)⟩, false, 0, 0),
  (⟨some 43, none, false, .call (.f 16) [(.t 42)]⟩, false, 1, 1),
  (⟨some 44, none, false, .lda 3 (.t 4)⟩, false, 0, 2),
  (⟨some 45, none, false, .call (.f 15) [(.t 43), (.t 44)]⟩, true, 7, 1),
  (⟨some 41, none, false, .mv (.t 45)⟩, false, 15, 0),
  (⟨some 46, none, false, .ext (.t 41) 0⟩, false, 31, 0),
  (⟨some 47, none, false, .ext (.t 41) 1⟩, false, 31, 0),
  (⟨some 48, none, false, .ext (.t 41) 2⟩, false, 31, 0),
  (⟨some 7, none, false, .mv (.t 46)⟩, false, 63, 0),
  (⟨some 8, none, false, .mv (.t 47)⟩, false, 383, 0),
  (⟨some 9, none, false, .mv (.t 48)⟩, false, 1023, 0)] (some [0, 4, 5, 7, 8, 9])
def ir9_r4 : IC := .draw [(⟨some 50, none, false, .mv (.t 0)⟩, false, 0, 0),
  (⟨some 51, none, false, .call (.f 16) [(.t 50)]⟩, false, 1, 1),
  (⟨some 52, none, false, .lda 3 (.t 4)⟩, false, 0, 2),
  (⟨some 53, none, false, .call (.f 33) [(.t 51), (.t 52)]⟩, true, 7, 1),
  (⟨some 49, none, false, .mv (.t 53)⟩, false, 15, 0),
  (⟨some 54, none, false, .ext (.t 49) 0⟩, false, 31, 0),
  (⟨some 55, none, false, .ext (.t 49) 1⟩, false, 31, 0),
  (⟨some 10, none, false, .mv (.t 54)⟩, false, 63, 0),
  (⟨some 11, none, false, .mv (.t 55)⟩, false, 255, 0)] (some [0, 4, 5, 7, 8, 9, 10, 11])
def ir9_r5 : IC := .reg [⟨some 56, none, false, .mv (.t 9)⟩,
  ⟨some 57, none, false, .cmp .neq (.t 56) (.k (.int .i64 0))⟩,
  ⟨some 58, none, false, .mv (.t 57)⟩,
  ⟨some 59, some (58, false), false, .mv (.t 11)⟩,
  ⟨some 60, some (58, false), false, .cmp .neq (.t 59) (.k (.int .i64 0))⟩,
  ⟨some 61, none, false, .pick (.t 58) (.k (.bool true)) (.t 60)⟩] (some [0, 4, 5, 7, 8, 9, 10, 11, 61])
def ir9_r6 : IC := .reg [⟨some 62, none, false, .mv (.t 9)⟩,
  ⟨some 63, none, false, .mv (.t 11)⟩,
  ⟨some 64, none, false, .cmp .eql (.t 62) (.t 63)⟩,
  ⟨some 65, none, false, .mv (.t 64)⟩,
  ⟨some 66, some (65, true), false, .mv (.t 7)⟩,
  ⟨some 67, some (65, true), false, .len (.t 66)⟩,
  ⟨some 68, some (65, true), false, .cmp .eql (.t 67) (.k (.int .i64 0))⟩,
  ⟨some 69, none, false, .pick (.t 65) (.t 68) (.k (.bool false))⟩,
  ⟨some 70, none, false, .mv (.t 69)⟩,
  ⟨some 71, some (70, true), false, .mv (.t 8)⟩,
  ⟨some 72, some (70, true), false, .cmp .eql (.t 71) (.k (.int .i64 0))⟩,
  ⟨some 73, none, false, .pick (.t 70) (.t 72) (.k (.bool false))⟩,
  ⟨some 74, none, false, .mv (.t 73)⟩,
  ⟨some 75, some (74, true), false, .mv (.t 10)⟩,
  ⟨some 76, some (74, true), false, .len (.t 75)⟩,
  ⟨some 77, some (74, true), false, .cmp .eql (.t 76) (.k (.int .i64 0))⟩,
  ⟨some 78, none, false, .pick (.t 74) (.t 77) (.k (.bool false))⟩,
  ⟨some 79, none, false, .mv (.t 78)⟩,
  ⟨some 80, some (79, true), false, .call (.f 14) []⟩,
  ⟨some 81, none, false, .pick (.t 79) (.t 80) (.k (.bool false))⟩,
  ⟨some 6, none, false, .mv (.t 81)⟩] (some [6])
def ir9_4 : IC := .seq ir9_r6 .ret
def ir9_5 : IC := .cond (.t 61) ir9_4 .skip
def ir9_6 : IC := .seq ir9_r5 ir9_5
def ir9_r7 : IC := .draw [(⟨some 83, none, false, .mv (.t 0)⟩, false, 0, 0),
  (⟨some 84, none, false, .call (.f 16) [(.t 83)]⟩, false, 1, 1),
  (⟨some 85, none, false, .lda 3 (.t 4)⟩, false, 0, 2),
  (⟨some 86, none, false, .mv (.t 7)⟩, false, 0, 0),
  (⟨some 87, none, false, .call (.f 20) [(.t 86)]⟩, false, 11, 1),
  (⟨some 88, none, false, .call (.f 25) [(.t 84), (.t 85), (.t 87)]⟩, true, 31, 1),
  (⟨some 82, none, false, .mv (.t 88)⟩, false, 63, 0),
  (⟨some 89, none, false, .ext (.t 82) 0⟩, false, 127, 0),
  (⟨some 90, none, false, .ext (.t 82) 1⟩, false, 127, 0),
  (⟨some 12, none, false, .mv (.t 89)⟩, false, 255, 0),
  (⟨some 13, none, false, .mv (.t 90)⟩, false, 1023, 0)] (some [0, 4, 5, 8, 10, 12, 13])
def ir9_r8 : IC := .draw [(⟨some 92, none, false, .mv (.t 0)⟩, false, 0, 0),
  (⟨some 93, none, false, .call (.f 16) [(.t 92)]⟩, false, 1, 1),
  (⟨some 94, none, false, .lda 3 (.t 4)⟩, false, 0, 2),
  (⟨some 95, none, false, .bsl 1 0 [] []⟩, false, 0, 2),
  (⟨some 96, none, false, .mv (.t 10)⟩, false, 0, 0),
  (⟨some 97, none, false, .app 1 8 (.t 95) (.t 96)⟩, false, 27, 1),
  (⟨some 98, none, false, .call (.f 34) [(.t 93), (.t 94), (.t 97)]⟩, true, 63, 1),
  (⟨some 91, none, false, .mv (.t 98)⟩, false, 127, 0),
  (⟨some 99, none, false, .ext (.t 91) 0⟩, false, 255, 0),
  (⟨some 100, none, false, .ext (.t 91) 1⟩, false, 255, 0),
  (⟨some 14, none, false, .mv (.t 99)⟩, false, 511, 0),
  (⟨some 15, none, false, .mv (.t 100)⟩, false, 2047, 0)] (some [0, 4, 5, 8, 10, 12, 13, 14, 15])
def ir9_r9 : IC := .reg [⟨some 101, none, false, .mv (.t 13)⟩,
  ⟨some 102, none, false, .cmp .neq (.t 101) (.k (.int .i64 0))⟩,
  ⟨some 103, none, false, .mv (.t 102)⟩,
  ⟨some 104, some (103, false), false, .mv (.t 12)⟩,
  ⟨some 105, some (103, false), false, .mv (.t 8)⟩,
  ⟨some 106, some (103, false), false, .cmp .neq (.t 104) (.t 105)⟩,
  ⟨some 107, none, false, .pick (.t 103) (.k (.bool true)) (.t 106)⟩,
  ⟨some 108, none, false, .mv (.t 107)⟩,
  ⟨some 109, some (108, false), false, .mv (.t 15)⟩,
  ⟨some 110, some (108, false), false, .cmp .neq (.t 109) (.k (.int .i64 0))⟩,
  ⟨some 111, none, false, .pick (.t 108) (.k (.bool true)) (.t 110)⟩,
  ⟨some 112, none, false, .mv (.t 111)⟩,
  ⟨some 113, some (112, false), false, .mv (.t 14)⟩,
  ⟨some 114, some (112, false), false, .not (.t 113)⟩,
  ⟨some 115, none, false, .pick (.t 112) (.k (.bool true)) (.t 114)⟩,
  ⟨some 116, none, false, .mv (.t 115)⟩,
  ⟨some 117, some (116, false), false, .mv (.t 10)⟩,
  ⟨some 118, some (116, false), false, .len (.t 117)⟩,
  ⟨some 119, some (116, false), false, .mv (.t 0)⟩,
  ⟨some 120, some (116, false), false, .call (.f 21) [(.t 119)]⟩,
  ⟨some 121, some (116, false), false, .ar .add (.t 120) (.k (.int .i64 1))⟩,
  ⟨some 122, some (116, false), false, .cmp .neq (.t 118) (.t 121)⟩,
  ⟨some 123, none, false, .pick (.t 116) (.k (.bool true)) (.t 122)⟩,
  ⟨some 124, none, false, .mv (.t 123)⟩,
  ⟨some 125, some (124, false), false, .mv (.t 10)⟩,
  ⟨some 126, some (124, false), false, .iad 1 (.t 125) (.k (.int .i64 0))⟩,
  ⟨some 127, some (124, false), false, .ldc (.t 126)⟩,
  ⟨some 128, some (124, false), false, .mv (.t 8)⟩,
  ⟨some 129, some (124, false), false, .cmp .neq (.t 127) (.t 128)⟩,
  ⟨some 130, none, false, .pick (.t 124) (.k (.bool true)) (.t 129)⟩] (some [0, 4, 5, 8, 10, 130])
def ir9_r10 : IC := .reg [⟨some 6, none, false, .mv (.k (.bool false))⟩] (some [6])
def ir9_7 : IC := .seq ir9_r10 .ret
def ir9_8 : IC := .cond (.t 130) ir9_7 .skip
def ir9_9 : IC := .seq ir9_r9 ir9_8
def ir9_r11 : IC := .draw [(⟨some 132, none, false, .mv (.t 0)⟩, false, 0, 0),
  (⟨some 133, none, false, .call (.f 16) [(.t 132)]⟩, false, 1, 1),
  (⟨some 134, none, false, .lda 3 (.t 4)⟩, false, 0, 2),
  (⟨some 135, none, false, .fad 0 (.t 5)⟩, false, 0, 0),
  (⟨some 136, none, false, .ldc (.t 135)⟩, false, 8, 2),
  (⟨some 137, none, false, .call (.f 20) [(.t 136)]⟩, false, 27, 1),
  (⟨some 138, none, false, .call (.f 25) [(.t 133), (.t 134), (.t 137)]⟩, true, 63, 1),
  (⟨some 131, none, false, .mv (.t 138)⟩, false, 127, 0),
  (⟨some 139, none, false, .ext (.t 131) 0⟩, false, 255, 0),
  (⟨some 140, none, false, .ext (.t 131) 1⟩, false, 255, 0),
  (⟨some 16, none, false, .mv (.t 139)⟩, false, 511, 0),
  (⟨some 17, none, false, .mv (.t 140)⟩, false, 2047, 0)] (some [0, 4, 5, 8, 10, 16, 17])
def ir9_r12 : IC := .reg [⟨some 141, none, false, .mv (.t 17)⟩,
  ⟨some 142, none, false, .cmp .eql (.t 141) (.k (.int .i64 0))⟩,
  ⟨some 143, none, false, .mv (.t 142)⟩,
  ⟨some 144, some (143, true), false, .mv (.t 16)⟩,
  ⟨some 145, some (143, true), false, .mv (.t 8)⟩,
  ⟨some 146, some (143, true), false, .cmp .gtr (.t 144) (.t 145)⟩,
  ⟨some 147, none, false, .pick (.t 143) (.t 146) (.k (.bool false))⟩] (some [0, 4, 5, 8, 10, 147])
def ir9_r13 : IC := .reg [⟨some 6, none, false, .mv (.k (.bool false))⟩] (some [6])
def ir9_10 : IC := .seq ir9_r13 .ret
def ir9_11 : IC := .cond (.t 147) ir9_10 .skip
def ir9_12 : IC := .seq ir9_r12 ir9_11
def ir9_13 : IC := .seq ir9_r11 ir9_12
def ir9_r14 : IC := .draw [(⟨some 149, none, false, .mv (.t 0)⟩, false, 0, 0),
  (⟨some 150, none, false, .call (.f 16) [(.t 149)]⟩, false, 1, 1),
  (⟨some 151, none, false, .lda 3 (.t 4)⟩, false, 0, 2),
  (⟨some 152, none, false, .bsl 1 0 [] []⟩, false, 0, 2),
  (⟨some 153, none, false, .fad 1 (.t 5)⟩, false, 0, 0),
  (⟨some 154, none, false, .ldc (.t 153)⟩, false, 16, 2),
  (⟨some 155, none, false, .app 1 8 (.t 152) (.t 154)⟩, false, 59, 1),
  (⟨some 156, none, false, .call (.f 34) [(.t 150), (.t 151), (.t 155)]⟩, true, 127, 1),
  (⟨some 148, none, false, .mv (.t 156)⟩, false, 255, 0),
  (⟨some 157, none, false, .ext (.t 148) 0⟩, false, 511, 0),
  (⟨some 158, none, false, .ext (.t 148) 1⟩, false, 511, 0),
  (⟨some 18, none, false, .mv (.t 157)⟩, false, 1023, 0),
  (⟨some 19, none, false, .mv (.t 158)⟩, false, 4095, 0)] (some [5, 8, 10, 18, 19])
def ir9_r15 : IC := .reg [⟨some 159, none, false, .mv (.t 19)⟩,
  ⟨some 160, none, false, .cmp .neq (.t 159) (.k (.int .i64 0))⟩,
  ⟨some 161, none, false, .mv (.t 160)⟩,
  ⟨some 162, some (161, false), false, .mv (.t 18)⟩,
  ⟨some 163, some (161, false), false, .mv (.t 162)⟩,
  ⟨some 164, some (163, true), false, .fad 1 (.t 5)⟩,
  ⟨some 165, some (163, true), false, .ldc (.t 164)⟩,
  ⟨some 166, some (163, true), false, .len (.t 165)⟩,
  ⟨some 167, some (163, true), false, .mv (.t 10)⟩,
  ⟨some 168, some (163, true), false, .len (.t 167)⟩,
  ⟨some 169, some (163, true), false, .cmp .neq (.t 166) (.t 168)⟩,
  ⟨some 170, some (163, true), false, .mv (.t 169)⟩,
  ⟨some 171, some (170, false), false, .fad 1 (.t 5)⟩,
  ⟨some 172, some (170, false), false, .ldc (.t 171)⟩,
  ⟨some 173, some (170, false), false, .iad 1 (.t 172) (.k (.int .i64 0))⟩,
  ⟨some 174, some (170, false), false, .ldc (.t 173)⟩,
  ⟨some 175, some (170, false), false, .mv (.t 8)⟩,
  ⟨some 176, some (170, false), false, .cmp .lss (.t 174) (.t 175)⟩,
  ⟨some 177, some (163, true), false, .pick (.t 170) (.k (.bool true)) (.t 176)⟩,
  ⟨some 178, some (161, false), false, .pick (.t 163) (.t 177) (.k (.bool false))⟩,
  ⟨some 179, none, false, .pick (.t 161) (.k (.bool true)) (.t 178)⟩] (some [179])
def ir9_r16 : IC := .reg [⟨some 6, none, false, .mv (.k (.bool false))⟩] (some [6])
def ir9_14 : IC := .seq ir9_r16 .ret
def ir9_15 : IC := .cond (.t 179) ir9_14 .skip
def ir9_16 : IC := .seq ir9_r15 ir9_15
def ir9_17 : IC := .seq ir9_r14 ir9_16
def ir9_r17 : IC := .reg [⟨some 180, none, false, .call (.f 14) []⟩,
  ⟨some 6, none, false, .mv (.t 180)⟩] (some [6])
def ir9_18 : IC := .seq ir9_r17 .ret
def ir9_19 : IC := .seq ir9_17 ir9_18
def ir9_20 : IC := .seq ir9_13 ir9_19
def ir9_21 : IC := .seq ir9_9 ir9_20
def ir9_22 : IC := .seq ir9_r8 ir9_21
def ir9_23 : IC := .seq ir9_r7 ir9_22
def ir9_24 : IC := .seq ir9_6 ir9_23
def ir9_25 : IC := .seq ir9_r4 ir9_24
def ir9_26 : IC := .seq ir9_r3 ir9_25
def ir9_27 : IC := .seq ir9_3 ir9_26
def ir9_28 : IC := .seq ir9_r0 ir9_27
def ir9 : IC := ir9_28
theorem fn9 : FnIs Try.prog 9 ir9 181 [.tmp 6] := ⟨Try.f9, Try.f9.body.getD .skip, Try.func9, by kernel_rfl, by kernel_rfl, by kernel_rfl, by kernel_rfl⟩
set_option maxHeartbeats 4000000 in
theorem upper_c (n c : Nat) (l : List St) (k1 k2 k3 : Int) (nb cb : Nat) (bs : List Bl) (nd cd : Nat) (bd : List Int) (hn : l.length = n) (hnb : bs.length = nb) (hnd : bd.length = nd) :
    Fc Try.prog 9 [s1 n c, sawV k1 k2 k3, .agg #[.slice (some ⟨2, 0, none⟩) nb cb, .slice (some ⟨3, 0, none⟩) nd cd]] (Hp 4 [none, some (.cells ⟨rows eII l, 0, false⟩), some (.cells ⟨rows eII bs, 0, false⟩), some (.cells ⟨rows eI bd, 0, false⟩)]) (.bool true) (Hp 4 [none, some (.cells ⟨rows eII l, 0, false⟩), some (.cells ⟨rows eII bs, 0, false⟩), some (.cells ⟨rows eI bd, 0, false⟩)]) := by
  refine Fc.intro0 fn9 (by simp) rfl rfl ?_; simp only [argF]
  refine ITri.seq ?_
  refine ITri.reg pok ?_; simp -implicitDefEqProofs (disch := first | decide | exact of_eq_true (eq_true rfl) | omega | assumption) only [ ↓vcD, vcE, evs, evP, evB, intsOf, fillC, Value.cells, pt, List.append_nil, List.nil_append, List.cons_append, List.length_cons, List.length_nil, List.filter_nil, List.map_nil, ↓List.getElem?_cons_zero, ↓List.getElem?_cons_succ, List.getElem?_cons_zero, List.getElem?_cons_succ, List.set_cons_zero, List.set_cons_succ, Option.join_some, Option.join_none, Option.map_some, List.all_cons, List.all_nil, Value.oneCell', reduceIte, reduceCtorEq, Nat.reduceEqDiff, Nat.reduceAdd, Nat.reduceMul, Nat.reduceLT, Nat.reduceBEq, Nat.reduceLeDiff, Nat.reduceSub, List.size_toArray] -- r0 plain.go:18
  refine ITri.seq ?_
  refine ITri.seq ?_
  by_cases g1 : (70 : Int) < n
  · refine ITri.reg pok ?_; simp -implicitDefEqProofs (disch := first | decide | exact of_eq_true (eq_true rfl) | omega | assumption) only [g1, decide_true,  ↓vcD, vcE, evs, evP, evB, intsOf, fillC, Value.cells, pt, List.append_nil, List.nil_append, List.cons_append, List.length_cons, List.length_nil, List.filter_nil, List.map_nil, ↓List.getElem?_cons_zero, ↓List.getElem?_cons_succ, List.getElem?_cons_zero, List.getElem?_cons_succ, List.set_cons_zero, List.set_cons_succ, Option.join_some, Option.join_none, Option.map_some, List.all_cons, List.all_nil, Value.oneCell', reduceIte, reduceCtorEq, Nat.reduceEqDiff, Nat.reduceAdd, Nat.reduceMul, Nat.reduceLT, Nat.reduceBEq, Nat.reduceLeDiff, Nat.reduceSub, List.size_toArray]
    refine ITri.cond (v := true) rfl (fun _ => ?_) (fun h => by cases h)
    refine ITri.seq ?_
    refine ITri.reg pok ?_; simp -implicitDefEqProofs (disch := first | decide | exact of_eq_true (eq_true rfl) | omega | assumption) only [ ↓vcD, vcE, evs, evP, evB, intsOf, fillC, Value.cells, pt, List.append_nil, List.nil_append, List.cons_append, List.length_cons, List.length_nil, List.filter_nil, List.map_nil, ↓List.getElem?_cons_zero, ↓List.getElem?_cons_succ, List.getElem?_cons_zero, List.getElem?_cons_succ, List.set_cons_zero, List.set_cons_succ, Option.join_some, Option.join_none, Option.map_some, List.all_cons, List.all_nil, Value.oneCell', reduceIte, reduceCtorEq, Nat.reduceEqDiff, Nat.reduceAdd, Nat.reduceMul, Nat.reduceLT, Nat.reduceBEq, Nat.reduceLeDiff, Nat.reduceSub, List.size_toArray]
    refine ⟨_, _, known_f, ?_⟩
    try simp -implicitDefEqProofs (disch := first | decide | exact of_eq_true (eq_true rfl) | omega | assumption) only [ ↓vcD, vcE, evs, evP, evB, intsOf, fillC, Value.cells, pt, List.append_nil, List.nil_append, List.cons_append, List.length_cons, List.length_nil, List.filter_nil, List.map_nil, ↓List.getElem?_cons_zero, ↓List.getElem?_cons_succ, List.getElem?_cons_zero, List.getElem?_cons_succ, List.set_cons_zero, List.set_cons_succ, Option.join_some, Option.join_none, Option.map_some, List.all_cons, List.all_nil, Value.oneCell', reduceIte, reduceCtorEq, Nat.reduceEqDiff, Nat.reduceAdd, Nat.reduceMul, Nat.reduceLT, Nat.reduceBEq, Nat.reduceLeDiff, Nat.reduceSub, List.size_toArray]
    refine ITri.ret ?_; exact EndR.plain (by simp) (by rfl) (by rfl) (by rfl)
  by_cases g2 : (40 : Int) < nb
  · refine ITri.reg pok ?_; simp -implicitDefEqProofs (disch := first | decide | exact of_eq_true (eq_true rfl) | omega | assumption) only [g1, g2, decide_true, decide_false,  ↓vcD, vcE, evs, evP, evB, intsOf, fillC, Value.cells, pt, List.append_nil, List.nil_append, List.cons_append, List.length_cons, List.length_nil, List.filter_nil, List.map_nil, ↓List.getElem?_cons_zero, ↓List.getElem?_cons_succ, List.getElem?_cons_zero, List.getElem?_cons_succ, List.set_cons_zero, List.set_cons_succ, Option.join_some, Option.join_none, Option.map_some, List.all_cons, List.all_nil, Value.oneCell', reduceIte, reduceCtorEq, Nat.reduceEqDiff, Nat.reduceAdd, Nat.reduceMul, Nat.reduceLT, Nat.reduceBEq, Nat.reduceLeDiff, Nat.reduceSub, List.size_toArray]
    refine ITri.cond (v := true) rfl (fun _ => ?_) (fun h => by cases h)
    refine ITri.seq ?_
    refine ITri.reg pok ?_; simp -implicitDefEqProofs (disch := first | decide | exact of_eq_true (eq_true rfl) | omega | assumption) only [ ↓vcD, vcE, evs, evP, evB, intsOf, fillC, Value.cells, pt, List.append_nil, List.nil_append, List.cons_append, List.length_cons, List.length_nil, List.filter_nil, List.map_nil, ↓List.getElem?_cons_zero, ↓List.getElem?_cons_succ, List.getElem?_cons_zero, List.getElem?_cons_succ, List.set_cons_zero, List.set_cons_succ, Option.join_some, Option.join_none, Option.map_some, List.all_cons, List.all_nil, Value.oneCell', reduceIte, reduceCtorEq, Nat.reduceEqDiff, Nat.reduceAdd, Nat.reduceMul, Nat.reduceLT, Nat.reduceBEq, Nat.reduceLeDiff, Nat.reduceSub, List.size_toArray]
    refine ⟨_, _, known_f, ?_⟩
    try simp -implicitDefEqProofs (disch := first | decide | exact of_eq_true (eq_true rfl) | omega | assumption) only [ ↓vcD, vcE, evs, evP, evB, intsOf, fillC, Value.cells, pt, List.append_nil, List.nil_append, List.cons_append, List.length_cons, List.length_nil, List.filter_nil, List.map_nil, ↓List.getElem?_cons_zero, ↓List.getElem?_cons_succ, List.getElem?_cons_zero, List.getElem?_cons_succ, List.set_cons_zero, List.set_cons_succ, Option.join_some, Option.join_none, Option.map_some, List.all_cons, List.all_nil, Value.oneCell', reduceIte, reduceCtorEq, Nat.reduceEqDiff, Nat.reduceAdd, Nat.reduceMul, Nat.reduceLT, Nat.reduceBEq, Nat.reduceLeDiff, Nat.reduceSub, List.size_toArray]
    refine ITri.ret ?_; exact EndR.plain (by simp) (by rfl) (by rfl) (by rfl)
  by_cases g3 : (700 : Int) < nd
  · refine ITri.reg pok ?_; simp -implicitDefEqProofs (disch := first | decide | exact of_eq_true (eq_true rfl) | omega | assumption) only [g1, g2, g3, decide_true, decide_false,  ↓vcD, vcE, evs, evP, evB, intsOf, fillC, Value.cells, pt, List.append_nil, List.nil_append, List.cons_append, List.length_cons, List.length_nil, List.filter_nil, List.map_nil, ↓List.getElem?_cons_zero, ↓List.getElem?_cons_succ, List.getElem?_cons_zero, List.getElem?_cons_succ, List.set_cons_zero, List.set_cons_succ, Option.join_some, Option.join_none, Option.map_some, List.all_cons, List.all_nil, Value.oneCell', reduceIte, reduceCtorEq, Nat.reduceEqDiff, Nat.reduceAdd, Nat.reduceMul, Nat.reduceLT, Nat.reduceBEq, Nat.reduceLeDiff, Nat.reduceSub, List.size_toArray]
    refine ITri.cond (v := true) rfl (fun _ => ?_) (fun h => by cases h)
    refine ITri.seq ?_
    refine ITri.reg pok ?_; simp -implicitDefEqProofs (disch := first | decide | exact of_eq_true (eq_true rfl) | omega | assumption) only [ ↓vcD, vcE, evs, evP, evB, intsOf, fillC, Value.cells, pt, List.append_nil, List.nil_append, List.cons_append, List.length_cons, List.length_nil, List.filter_nil, List.map_nil, ↓List.getElem?_cons_zero, ↓List.getElem?_cons_succ, List.getElem?_cons_zero, List.getElem?_cons_succ, List.set_cons_zero, List.set_cons_succ, Option.join_some, Option.join_none, Option.map_some, List.all_cons, List.all_nil, Value.oneCell', reduceIte, reduceCtorEq, Nat.reduceEqDiff, Nat.reduceAdd, Nat.reduceMul, Nat.reduceLT, Nat.reduceBEq, Nat.reduceLeDiff, Nat.reduceSub, List.size_toArray]
    refine ⟨_, _, known_f, ?_⟩
    try simp -implicitDefEqProofs (disch := first | decide | exact of_eq_true (eq_true rfl) | omega | assumption) only [ ↓vcD, vcE, evs, evP, evB, intsOf, fillC, Value.cells, pt, List.append_nil, List.nil_append, List.cons_append, List.length_cons, List.length_nil, List.filter_nil, List.map_nil, ↓List.getElem?_cons_zero, ↓List.getElem?_cons_succ, List.getElem?_cons_zero, List.getElem?_cons_succ, List.set_cons_zero, List.set_cons_succ, Option.join_some, Option.join_none, Option.map_some, List.all_cons, List.all_nil, Value.oneCell', reduceIte, reduceCtorEq, Nat.reduceEqDiff, Nat.reduceAdd, Nat.reduceMul, Nat.reduceLT, Nat.reduceBEq, Nat.reduceLeDiff, Nat.reduceSub, List.size_toArray]
    refine ITri.ret ?_; exact EndR.plain (by simp) (by rfl) (by rfl) (by rfl)
  have hb : n ≤ 1000000 := by omega
  refine ITri.reg pok ?_; simp -implicitDefEqProofs (disch := first | decide | exact of_eq_true (eq_true rfl) | omega | assumption) only [g1, g2, g3, decide_false,  ↓vcD, vcE, evs, evP, evB, intsOf, fillC, Value.cells, pt, List.append_nil, List.nil_append, List.cons_append, List.length_cons, List.length_nil, List.filter_nil, List.map_nil, ↓List.getElem?_cons_zero, ↓List.getElem?_cons_succ, List.getElem?_cons_zero, List.getElem?_cons_succ, List.set_cons_zero, List.set_cons_succ, Option.join_some, Option.join_none, Option.map_some, List.all_cons, List.all_nil, Value.oneCell', reduceIte, reduceCtorEq, Nat.reduceEqDiff, Nat.reduceAdd, Nat.reduceMul, Nat.reduceLT, Nat.reduceBEq, Nat.reduceLeDiff, Nat.reduceSub, List.size_toArray] -- r1 plain.go:19 CALLS .call F21 [%36] GUARDS [23, 29, 35] live [0, 4, 5, 39]
  refine ⟨_, _, lengthOf_f n l hn hb (sees0 rfl (of_decide_eq_true rfl)) (Rd.hq rfl rfl), ?_⟩
  try simp -implicitDefEqProofs (disch := first | decide | exact of_eq_true (eq_true rfl) | omega | assumption) only [ ↓vcD, vcE, evs, evP, evB, intsOf, fillC, Value.cells, pt, List.append_nil, List.nil_append, List.cons_append, List.length_cons, List.length_nil, List.filter_nil, List.map_nil, ↓List.getElem?_cons_zero, ↓List.getElem?_cons_succ, List.getElem?_cons_zero, List.getElem?_cons_succ, List.set_cons_zero, List.set_cons_succ, Option.join_some, Option.join_none, Option.map_some, List.all_cons, List.all_nil, Value.oneCell', reduceIte, reduceCtorEq, Nat.reduceEqDiff, Nat.reduceAdd, Nat.reduceMul, Nat.reduceLT, Nat.reduceBEq, Nat.reduceLeDiff, Nat.reduceSub, List.size_toArray]
  refine ITri.condD (by rfl) (fun h1 => ?_) (fun h1 => ?_) -- %39
  · refine ITri.seq ?_
    refine ITri.reg pok ?_; simp -implicitDefEqProofs (disch := first | decide | exact of_eq_true (eq_true rfl) | omega | assumption) only [ ↓vcD, vcE, evs, evP, evB, intsOf, fillC, Value.cells, pt, List.append_nil, List.nil_append, List.cons_append, List.length_cons, List.length_nil, List.filter_nil, List.map_nil, ↓List.getElem?_cons_zero, ↓List.getElem?_cons_succ, List.getElem?_cons_zero, List.getElem?_cons_succ, List.set_cons_zero, List.set_cons_succ, Option.join_some, Option.join_none, Option.map_some, List.all_cons, List.all_nil, Value.oneCell', reduceIte, reduceCtorEq, Nat.reduceEqDiff, Nat.reduceAdd, Nat.reduceMul, Nat.reduceLT, Nat.reduceBEq, Nat.reduceLeDiff, Nat.reduceSub, List.size_toArray] -- r2 plain.go:20 CALLS .call F14 []
    refine ⟨_, _, known_f, ?_⟩
    try simp -implicitDefEqProofs (disch := first | decide | exact of_eq_true (eq_true rfl) | omega | assumption) only [ ↓vcD, vcE, evs, evP, evB, intsOf, fillC, Value.cells, pt, List.append_nil, List.nil_append, List.cons_append, List.length_cons, List.length_nil, List.filter_nil, List.map_nil, ↓List.getElem?_cons_zero, ↓List.getElem?_cons_succ, List.getElem?_cons_zero, List.getElem?_cons_succ, List.set_cons_zero, List.set_cons_succ, Option.join_some, Option.join_none, Option.map_some, List.all_cons, List.all_nil, Value.oneCell', reduceIte, reduceCtorEq, Nat.reduceEqDiff, Nat.reduceAdd, Nat.reduceMul, Nat.reduceLT, Nat.reduceBEq, Nat.reduceLeDiff, Nat.reduceSub, List.size_toArray]
    refine ITri.ret ?_; exact EndR.plain (by simp) (by rfl) (by rfl) (by rfl)
  refine ITri.skip ?_; simp only [SeqQ_normal, BlkQ_normal]
  refine ITri.seq ?_
  refine ITri.draw pok ?_; simp -implicitDefEqProofs (disch := first | decide | exact of_eq_true (eq_true rfl) | omega | assumption) only [ ↓vcD, vcE, evs, evP, evB, intsOf, fillC, Value.cells, pt, List.append_nil, List.nil_append, List.cons_append, List.length_cons, List.length_nil, List.filter_nil, List.map_nil, ↓List.getElem?_cons_zero, ↓List.getElem?_cons_succ, List.getElem?_cons_zero, List.getElem?_cons_succ, List.set_cons_zero, List.set_cons_succ, Option.join_some, Option.join_none, Option.map_some, List.all_cons, List.all_nil, Value.oneCell', reduceIte, reduceCtorEq, Nat.reduceEqDiff, Nat.reduceAdd, Nat.reduceMul, Nat.reduceLT, Nat.reduceBEq, Nat.reduceLeDiff, Nat.reduceSub, List.size_toArray] -- r3 plain.go:22 CALLS .call F16 [%42] .call F15 [%43, %44]
  refine ⟨_, _, own_f n l hn hb (sees0 rfl (of_decide_eq_true rfl)) (Rd.hq rfl rfl), ?_⟩
  try simp -implicitDefEqProofs (disch := first | decide | exact of_eq_true (eq_true rfl) | omega | assumption) only [ ↓vcD, vcE, evs, evP, evB, intsOf, fillC, Value.cells, pt, List.append_nil, List.nil_append, List.cons_append, List.length_cons, List.length_nil, List.filter_nil, List.map_nil, ↓List.getElem?_cons_zero, ↓List.getElem?_cons_succ, List.getElem?_cons_zero, List.getElem?_cons_succ, List.set_cons_zero, List.set_cons_succ, Option.join_some, Option.join_none, Option.map_some, List.all_cons, List.all_nil, Value.oneCell', reduceIte, reduceCtorEq, Nat.reduceEqDiff, Nat.reduceAdd, Nat.reduceMul, Nat.reduceLT, Nat.reduceBEq, Nat.reduceLeDiff, Nat.reduceSub, List.size_toArray]
  refine ⟨_, _, best_f n l k1 k2 k3 hn hb (sees0 rfl (of_decide_eq_true rfl)) (Rd.hq rfl rfl), ?_⟩
  try simp -implicitDefEqProofs (disch := first | decide | exact of_eq_true (eq_true rfl) | omega | assumption) only [ ↓vcD, vcE, evs, evP, evB, intsOf, fillC, Value.cells, pt, List.append_nil, List.nil_append, List.cons_append, List.length_cons, List.length_nil, List.filter_nil, List.map_nil, ↓List.getElem?_cons_zero, ↓List.getElem?_cons_succ, List.getElem?_cons_zero, List.getElem?_cons_succ, List.set_cons_zero, List.set_cons_succ, Option.join_some, Option.join_none, Option.map_some, List.all_cons, List.all_nil, Value.oneCell', reduceIte, reduceCtorEq, Nat.reduceEqDiff, Nat.reduceAdd, Nat.reduceMul, Nat.reduceLT, Nat.reduceBEq, Nat.reduceLeDiff, Nat.reduceSub, List.size_toArray]
  refine ITri.seq ?_
  refine ITri.draw pok ?_; simp -implicitDefEqProofs (disch := first | decide | exact of_eq_true (eq_true rfl) | omega | assumption) only [ ↓vcD, vcE, evs, evP, evB, intsOf, fillC, Value.cells, pt, List.append_nil, List.nil_append, List.cons_append, List.length_cons, List.length_nil, List.filter_nil, List.map_nil, ↓List.getElem?_cons_zero, ↓List.getElem?_cons_succ, List.getElem?_cons_zero, List.getElem?_cons_succ, List.set_cons_zero, List.set_cons_succ, Option.join_some, Option.join_none, Option.map_some, List.all_cons, List.all_nil, Value.oneCell', reduceIte, reduceCtorEq, Nat.reduceEqDiff, Nat.reduceAdd, Nat.reduceMul, Nat.reduceLT, Nat.reduceBEq, Nat.reduceLeDiff, Nat.reduceSub, List.size_toArray] -- r4 plain.go:23 CALLS .call F16 [%50] .call F33 [%51, %52]
  refine ⟨_, _, own_f n l hn hb (sees0 rfl (of_decide_eq_true rfl)) (Rd.hq rfl rfl), ?_⟩
  try simp -implicitDefEqProofs (disch := first | decide | exact of_eq_true (eq_true rfl) | omega | assumption) only [ ↓vcD, vcE, evs, evP, evB, intsOf, fillC, Value.cells, pt, List.append_nil, List.nil_append, List.cons_append, List.length_cons, List.length_nil, List.filter_nil, List.map_nil, ↓List.getElem?_cons_zero, ↓List.getElem?_cons_succ, List.getElem?_cons_zero, List.getElem?_cons_succ, List.set_cons_zero, List.set_cons_succ, Option.join_some, Option.join_none, Option.map_some, List.all_cons, List.all_nil, Value.oneCell', reduceIte, reduceCtorEq, Nat.reduceEqDiff, Nat.reduceAdd, Nat.reduceMul, Nat.reduceLT, Nat.reduceBEq, Nat.reduceLeDiff, Nat.reduceSub, List.size_toArray]
  refine ⟨_, _, bounds_f n l k1 k2 k3 hn hb (sees0 rfl (of_decide_eq_true rfl)) (Rd.hq rfl rfl), ?_⟩
  simp -implicitDefEqProofs (disch := first | decide | exact of_eq_true (eq_true rfl) | omega | assumption) only [news_c, news_n,  ↓vcD, vcE, evs, evP, evB, intsOf, fillC, Value.cells, pt, List.append_nil, List.nil_append, List.cons_append, List.length_cons, List.length_nil, List.filter_nil, List.map_nil, ↓List.getElem?_cons_zero, ↓List.getElem?_cons_succ, List.getElem?_cons_zero, List.getElem?_cons_succ, List.set_cons_zero, List.set_cons_succ, Option.join_some, Option.join_none, Option.map_some, List.all_cons, List.all_nil, Value.oneCell', reduceIte, reduceCtorEq, Nat.reduceEqDiff, Nat.reduceAdd, Nat.reduceMul, Nat.reduceLT, Nat.reduceBEq, Nat.reduceLeDiff, Nat.reduceSub, List.size_toArray]
  refine ITri.seq ?_
  refine ITri.seq ?_
  by_cases h2 : checkF l (k1, k2, k3) = 0
  rotate_left
  · obtain ⟨e1, e2, e3⟩ := best_bad h2
    have hz : ((0 : Nat) : Int) = 0 := rfl
    refine ITri.reg pok ?_; simp -implicitDefEqProofs (disch := first | decide | exact of_eq_true (eq_true rfl) | omega | assumption) only [h2, decide_false, Bool.not_false,  ↓vcD, vcE, evs, evP, evB, intsOf, fillC, Value.cells, pt, List.append_nil, List.nil_append, List.cons_append, List.length_cons, List.length_nil, List.filter_nil, List.map_nil, ↓List.getElem?_cons_zero, ↓List.getElem?_cons_succ, List.getElem?_cons_zero, List.getElem?_cons_succ, List.set_cons_zero, List.set_cons_succ, Option.join_some, Option.join_none, Option.map_some, List.all_cons, List.all_nil, Value.oneCell', reduceIte, reduceCtorEq, Nat.reduceEqDiff, Nat.reduceAdd, Nat.reduceMul, Nat.reduceLT, Nat.reduceBEq, Nat.reduceLeDiff, Nat.reduceSub, List.size_toArray] -- r5
    refine ITri.cond (v := true) rfl (fun _ => ?_) (fun h => by cases h)
    refine ITri.seq ?_
    refine ITri.reg pok ?_; simp -implicitDefEqProofs (disch := first | decide | exact of_eq_true (eq_true rfl) | omega | assumption) only [e1, e2, e3, hz, decide_true,  ↓vcD, vcE, evs, evP, evB, intsOf, fillC, Value.cells, pt, List.append_nil, List.nil_append, List.cons_append, List.length_cons, List.length_nil, List.filter_nil, List.map_nil, ↓List.getElem?_cons_zero, ↓List.getElem?_cons_succ, List.getElem?_cons_zero, List.getElem?_cons_succ, List.set_cons_zero, List.set_cons_succ, Option.join_some, Option.join_none, Option.map_some, List.all_cons, List.all_nil, Value.oneCell', reduceIte, reduceCtorEq, Nat.reduceEqDiff, Nat.reduceAdd, Nat.reduceMul, Nat.reduceLT, Nat.reduceBEq, Nat.reduceLeDiff, Nat.reduceSub, List.size_toArray] -- r6 plain.go:25 CALLS .call F14 [] GUARDS [65, 70, 74, 79] live [6]
    refine ⟨_, _, known_f, ?_⟩
    try simp -implicitDefEqProofs (disch := first | decide | exact of_eq_true (eq_true rfl) | omega | assumption) only [ ↓vcD, vcE, evs, evP, evB, intsOf, fillC, Value.cells, pt, List.append_nil, List.nil_append, List.cons_append, List.length_cons, List.length_nil, List.filter_nil, List.map_nil, ↓List.getElem?_cons_zero, ↓List.getElem?_cons_succ, List.getElem?_cons_zero, List.getElem?_cons_succ, List.set_cons_zero, List.set_cons_succ, Option.join_some, Option.join_none, Option.map_some, List.all_cons, List.all_nil, Value.oneCell', reduceIte, reduceCtorEq, Nat.reduceEqDiff, Nat.reduceAdd, Nat.reduceMul, Nat.reduceLT, Nat.reduceBEq, Nat.reduceLeDiff, Nat.reduceSub, List.size_toArray]
    refine ITri.ret ?_; exact EndR.plain (by simp) (by rfl) (by rfl) (by rfl)
  have hok := checkF_ok h2
  have hbl := bndL_len h2
  have hlo := lenO_okU hok.2.1
  refine ITri.reg pok ?_; simp -implicitDefEqProofs (disch := first | decide | exact of_eq_true (eq_true rfl) | omega | assumption) only [h2, decide_true, Bool.not_true,  ↓vcD, vcE, evs, evP, evB, intsOf, fillC, Value.cells, pt, List.append_nil, List.nil_append, List.cons_append, List.length_cons, List.length_nil, List.filter_nil, List.map_nil, ↓List.getElem?_cons_zero, ↓List.getElem?_cons_succ, List.getElem?_cons_zero, List.getElem?_cons_succ, List.set_cons_zero, List.set_cons_succ, Option.join_some, Option.join_none, Option.map_some, List.all_cons, List.all_nil, Value.oneCell', reduceIte, reduceCtorEq, Nat.reduceEqDiff, Nat.reduceAdd, Nat.reduceMul, Nat.reduceLT, Nat.reduceBEq, Nat.reduceLeDiff, Nat.reduceSub, List.size_toArray] -- r5
  refine ITri.cond (v := false) rfl (fun h => by cases h) (fun _ => ?_)
  refine ITri.skip ?_; simp only [SeqQ_normal, BlkQ_normal]
  have ht := total_best h2
  have hlf := lenF_bd hok.2.1
  have hwl := wF_len l hok.2.1
  have hbest := bestL_len l k1 k2 k3
  have hne : (bndL l k1 k2 k3).length ≠ 0 := by omega
  have e8 : (rows eI (bndL l k1 k2 k3)).length = (bndL l k1 k2 k3).length := by rw [rows_len, Nat.mul_one]
  have hp := bndL_proves h2
  refine ITri.seq ?_
  refine ITri.draw pok ?_; simp -implicitDefEqProofs (disch := first | decide | exact of_eq_true (eq_true rfl) | omega | assumption) only [ ↓vcD, vcE, evs, evP, evB, intsOf, fillC, Value.cells, pt, List.append_nil, List.nil_append, List.cons_append, List.length_cons, List.length_nil, List.filter_nil, List.map_nil, ↓List.getElem?_cons_zero, ↓List.getElem?_cons_succ, List.getElem?_cons_zero, List.getElem?_cons_succ, List.set_cons_zero, List.set_cons_succ, Option.join_some, Option.join_none, Option.map_some, List.all_cons, List.all_nil, Value.oneCell', reduceIte, reduceCtorEq, Nat.reduceEqDiff, Nat.reduceAdd, Nat.reduceMul, Nat.reduceLT, Nat.reduceBEq, Nat.reduceLeDiff, Nat.reduceSub, List.size_toArray] -- r7 plain.go:27 CALLS .call F16 [%83] .call F20 [%86] .call F25 [%84, %85, %87]
  refine ⟨_, _, own_f n l hn hb (sees0 rfl (of_decide_eq_true rfl)) (Rd.hq rfl rfl), ?_⟩
  try simp -implicitDefEqProofs (disch := first | decide | exact of_eq_true (eq_true rfl) | omega | assumption) only [ ↓vcD, vcE, evs, evP, evB, intsOf, fillC, Value.cells, pt, List.append_nil, List.nil_append, List.cons_append, List.length_cons, List.length_nil, List.filter_nil, List.map_nil, ↓List.getElem?_cons_zero, ↓List.getElem?_cons_succ, List.getElem?_cons_zero, List.getElem?_cons_succ, List.set_cons_zero, List.set_cons_succ, Option.join_some, Option.join_none, Option.map_some, List.all_cons, List.all_nil, Value.oneCell', reduceIte, reduceCtorEq, Nat.reduceEqDiff, Nat.reduceAdd, Nat.reduceMul, Nat.reduceLT, Nat.reduceBEq, Nat.reduceLeDiff, Nat.reduceSub, List.size_toArray]
  refine ⟨_, _, list_f _ (bestL l k1 k2 k3) rfl (by omega) (sees0 rfl (of_decide_eq_true rfl)) (Rd.hq rfl rfl), ?_⟩
  try simp -implicitDefEqProofs (disch := first | decide | exact of_eq_true (eq_true rfl) | omega | assumption) only [ ↓vcD, vcE, evs, evP, evB, intsOf, fillC, Value.cells, pt, List.append_nil, List.nil_append, List.cons_append, List.length_cons, List.length_nil, List.filter_nil, List.map_nil, ↓List.getElem?_cons_zero, ↓List.getElem?_cons_succ, List.getElem?_cons_zero, List.getElem?_cons_succ, List.set_cons_zero, List.set_cons_succ, Option.join_some, Option.join_none, Option.map_some, List.all_cons, List.all_nil, Value.oneCell', reduceIte, reduceCtorEq, Nat.reduceEqDiff, Nat.reduceAdd, Nat.reduceMul, Nat.reduceLT, Nat.reduceBEq, Nat.reduceLeDiff, Nat.reduceSub, List.size_toArray]
  refine ⟨_, _, total_f n l k1 k2 k3 _ (bestL l k1 k2 k3) hn hb rfl (by omega) (sees0 rfl (of_decide_eq_true rfl)) (Rd.hq rfl rfl) (Rd.hq rfl rfl), ?_⟩
  simp -implicitDefEqProofs (disch := first | decide | exact of_eq_true (eq_true rfl) | omega | assumption) only [ht,  ↓vcD, vcE, evs, evP, evB, intsOf, fillC, Value.cells, pt, List.append_nil, List.nil_append, List.cons_append, List.length_cons, List.length_nil, List.filter_nil, List.map_nil, ↓List.getElem?_cons_zero, ↓List.getElem?_cons_succ, List.getElem?_cons_zero, List.getElem?_cons_succ, List.set_cons_zero, List.set_cons_succ, Option.join_some, Option.join_none, Option.map_some, List.all_cons, List.all_nil, Value.oneCell', reduceIte, reduceCtorEq, Nat.reduceEqDiff, Nat.reduceAdd, Nat.reduceMul, Nat.reduceLT, Nat.reduceBEq, Nat.reduceLeDiff, Nat.reduceSub, List.size_toArray]
  refine ITri.seq ?_
  refine ITri.draw pok ?_; simp -implicitDefEqProofs (disch := first | decide | exact of_eq_true (eq_true rfl) | omega | assumption) only [ ↓vcD, vcE, evs, evP, evB, intsOf, fillC, Value.cells, pt, List.append_nil, List.nil_append, List.cons_append, List.length_cons, List.length_nil, List.filter_nil, List.map_nil, ↓List.getElem?_cons_zero, ↓List.getElem?_cons_succ, List.getElem?_cons_zero, List.getElem?_cons_succ, List.set_cons_zero, List.set_cons_succ, Option.join_some, Option.join_none, Option.map_some, List.all_cons, List.all_nil, Value.oneCell', reduceIte, reduceCtorEq, Nat.reduceEqDiff, Nat.reduceAdd, Nat.reduceMul, Nat.reduceLT, Nat.reduceBEq, Nat.reduceLeDiff, Nat.reduceSub, List.size_toArray] -- r8 plain.go:28 CALLS .call F16 [%92] .call F34 [%93, %94, %97]
  refine ⟨_, _, own_f n l hn hb (sees0 rfl (of_decide_eq_true rfl)) (Rd.hq rfl rfl), ?_⟩
  simp -implicitDefEqProofs (disch := first | decide | exact of_eq_true (eq_true rfl) | omega | assumption) only [e8,  ↓vcD, vcE, evs, evP, evB, intsOf, fillC, Value.cells, pt, List.append_nil, List.nil_append, List.cons_append, List.length_cons, List.length_nil, List.filter_nil, List.map_nil, ↓List.getElem?_cons_zero, ↓List.getElem?_cons_succ, List.getElem?_cons_zero, List.getElem?_cons_succ, List.set_cons_zero, List.set_cons_succ, Option.join_some, Option.join_none, Option.map_some, List.all_cons, List.all_nil, Value.oneCell', reduceIte, reduceCtorEq, Nat.reduceEqDiff, Nat.reduceAdd, Nat.reduceMul, Nat.reduceLT, Nat.reduceBEq, Nat.reduceLeDiff, Nat.reduceSub, List.size_toArray]
  refine ⟨_, _, proves_f n l k1 k2 k3 _ (bndL l k1 k2 k3) hn hb rfl (by omega) (sees0 rfl (of_decide_eq_true rfl)) (Rd.hq rfl rfl) (Rd.hq rfl rfl), ?_⟩
  simp -implicitDefEqProofs (disch := first | decide | exact of_eq_true (eq_true rfl) | omega | assumption) only [hp, h2,  ↓vcD, vcE, evs, evP, evB, intsOf, fillC, Value.cells, pt, List.append_nil, List.nil_append, List.cons_append, List.length_cons, List.length_nil, List.filter_nil, List.map_nil, ↓List.getElem?_cons_zero, ↓List.getElem?_cons_succ, List.getElem?_cons_zero, List.getElem?_cons_succ, List.set_cons_zero, List.set_cons_succ, Option.join_some, Option.join_none, Option.map_some, List.all_cons, List.all_nil, Value.oneCell', reduceIte, reduceCtorEq, Nat.reduceEqDiff, Nat.reduceAdd, Nat.reduceMul, Nat.reduceLT, Nat.reduceBEq, Nat.reduceLeDiff, Nat.reduceSub, List.size_toArray]
  refine ITri.seq ?_
  refine ITri.seq ?_
  refine ITri.reg pok ?_; simp -implicitDefEqProofs (disch := first | decide | exact of_eq_true (eq_true rfl) | omega | assumption) only [decide_true, Bool.not_true, Bool.not_false, decide_false,  ↓vcD, vcE, evs, evP, evB, intsOf, fillC, Value.cells, pt, List.append_nil, List.nil_append, List.cons_append, List.length_cons, List.length_nil, List.filter_nil, List.map_nil, ↓List.getElem?_cons_zero, ↓List.getElem?_cons_succ, List.getElem?_cons_zero, List.getElem?_cons_succ, List.set_cons_zero, List.set_cons_succ, Option.join_some, Option.join_none, Option.map_some, List.all_cons, List.all_nil, Value.oneCell', reduceIte, reduceCtorEq, Nat.reduceEqDiff, Nat.reduceAdd, Nat.reduceMul, Nat.reduceLT, Nat.reduceBEq, Nat.reduceLeDiff, Nat.reduceSub, List.size_toArray] -- r9
  refine ⟨_, _, lengthOf_f n l hn hb (sees0 rfl (of_decide_eq_true rfl)) (Rd.hq rfl rfl), ?_⟩
  simp -implicitDefEqProofs (disch := first | decide | exact of_eq_true (eq_true rfl) | omega | assumption) only [hbl, hlo, getI, show Int.toNat 0 = 0 from rfl, bestT_bnd h2, Nat.zero_mul, decide_true, Bool.not_true,  ↓vcD, vcE, evs, evP, evB, intsOf, fillC, Value.cells, pt, List.append_nil, List.nil_append, List.cons_append, List.length_cons, List.length_nil, List.filter_nil, List.map_nil, ↓List.getElem?_cons_zero, ↓List.getElem?_cons_succ, List.getElem?_cons_zero, List.getElem?_cons_succ, List.set_cons_zero, List.set_cons_succ, Option.join_some, Option.join_none, Option.map_some, List.all_cons, List.all_nil, Value.oneCell', reduceIte, reduceCtorEq, Nat.reduceEqDiff, Nat.reduceAdd, Nat.reduceMul, Nat.reduceLT, Nat.reduceBEq, Nat.reduceLeDiff, Nat.reduceSub, List.size_toArray]
  refine ITri.cond (v := false) rfl (fun h => by cases h) (fun _ => ?_)
  refine ITri.skip ?_; simp only [SeqQ_normal, BlkQ_normal]
  refine ITri.seq ?_
  refine ITri.seq ?_
  refine ITri.draw pok ?_; simp -implicitDefEqProofs (disch := first | decide | exact of_eq_true (eq_true rfl) | omega | assumption) only [ ↓vcD, vcE, evs, evP, evB, intsOf, fillC, Value.cells, pt, List.append_nil, List.nil_append, List.cons_append, List.length_cons, List.length_nil, List.filter_nil, List.map_nil, ↓List.getElem?_cons_zero, ↓List.getElem?_cons_succ, List.getElem?_cons_zero, List.getElem?_cons_succ, List.set_cons_zero, List.set_cons_succ, Option.join_some, Option.join_none, Option.map_some, List.all_cons, List.all_nil, Value.oneCell', reduceIte, reduceCtorEq, Nat.reduceEqDiff, Nat.reduceAdd, Nat.reduceMul, Nat.reduceLT, Nat.reduceBEq, Nat.reduceLeDiff, Nat.reduceSub, List.size_toArray] -- r11 plain.go:32 CALLS .call F16 [%132] .call F20 [%136] .call F25 [%133, %134, %137]
  refine ⟨_, _, own_f n l hn hb (sees0 rfl (of_decide_eq_true rfl)) (Rd.hq rfl rfl), ?_⟩
  try simp -implicitDefEqProofs (disch := first | decide | exact of_eq_true (eq_true rfl) | omega | assumption) only [ ↓vcD, vcE, evs, evP, evB, intsOf, fillC, Value.cells, pt, List.append_nil, List.nil_append, List.cons_append, List.length_cons, List.length_nil, List.filter_nil, List.map_nil, ↓List.getElem?_cons_zero, ↓List.getElem?_cons_succ, List.getElem?_cons_zero, List.getElem?_cons_succ, List.set_cons_zero, List.set_cons_succ, Option.join_some, Option.join_none, Option.map_some, List.all_cons, List.all_nil, Value.oneCell', reduceIte, reduceCtorEq, Nat.reduceEqDiff, Nat.reduceAdd, Nat.reduceMul, Nat.reduceLT, Nat.reduceBEq, Nat.reduceLeDiff, Nat.reduceSub, List.size_toArray]
  refine ⟨_, _, list_f nb bs hnb (by omega) (sees0 rfl (of_decide_eq_true rfl)) (Rd.hq rfl rfl), ?_⟩
  try simp -implicitDefEqProofs (disch := first | decide | exact of_eq_true (eq_true rfl) | omega | assumption) only [ ↓vcD, vcE, evs, evP, evB, intsOf, fillC, Value.cells, pt, List.append_nil, List.nil_append, List.cons_append, List.length_cons, List.length_nil, List.filter_nil, List.map_nil, ↓List.getElem?_cons_zero, ↓List.getElem?_cons_succ, List.getElem?_cons_zero, List.getElem?_cons_succ, List.set_cons_zero, List.set_cons_succ, Option.join_some, Option.join_none, Option.map_some, List.all_cons, List.all_nil, Value.oneCell', reduceIte, reduceCtorEq, Nat.reduceEqDiff, Nat.reduceAdd, Nat.reduceMul, Nat.reduceLT, Nat.reduceBEq, Nat.reduceLeDiff, Nat.reduceSub, List.size_toArray]
  refine ⟨_, _, total_f n l k1 k2 k3 nb bs hn hb hnb (by omega) (sees0 rfl (of_decide_eq_true rfl)) (Rd.hq rfl rfl) (Rd.hq rfl rfl), ?_⟩
  try simp -implicitDefEqProofs (disch := first | decide | exact of_eq_true (eq_true rfl) | omega | assumption) only [ ↓vcD, vcE, evs, evP, evB, intsOf, fillC, Value.cells, pt, List.append_nil, List.nil_append, List.cons_append, List.length_cons, List.length_nil, List.filter_nil, List.map_nil, ↓List.getElem?_cons_zero, ↓List.getElem?_cons_succ, List.getElem?_cons_zero, List.getElem?_cons_succ, List.set_cons_zero, List.set_cons_succ, Option.join_some, Option.join_none, Option.map_some, List.all_cons, List.all_nil, Value.oneCell', reduceIte, reduceCtorEq, Nat.reduceEqDiff, Nat.reduceAdd, Nat.reduceMul, Nat.reduceLT, Nat.reduceBEq, Nat.reduceLeDiff, Nat.reduceSub, List.size_toArray]
  obtain ⟨⟨tv, te⟩, hte⟩ : ∃ x, totalF l k1 k2 k3 bs = x := ⟨_, rfl⟩
  have hle : te = 0 → ¬ bestT l k1 k2 k3 < tv := fun h => by
    subst h
    have := total_le h2 hte
    omega
  simp only [hte]
  refine ITri.seq ?_
  refine ITri.one [(0, s1 n c), (4, pt 4), (5, pt 5), (8, .int .i64 (bestT l k1 k2 k3)), (10, .slice (some ⟨9, 0, none⟩) (bndL l k1 k2 k3).length openB), (147, .bool false)] ?_ ?_
  · by_cases h5 : te = 0
    · refine ITri.reg pok ?_; simp -implicitDefEqProofs (disch := first | decide | exact of_eq_true (eq_true rfl) | omega | assumption) only [h5, hle h5, decide_true, decide_false,  ↓vcD, vcE, evs, evP, evB, intsOf, fillC, Value.cells, pt, List.append_nil, List.nil_append, List.cons_append, List.length_cons, List.length_nil, List.filter_nil, List.map_nil, ↓List.getElem?_cons_zero, ↓List.getElem?_cons_succ, List.getElem?_cons_zero, List.getElem?_cons_succ, List.set_cons_zero, List.set_cons_succ, Option.join_some, Option.join_none, Option.map_some, List.all_cons, List.all_nil, Value.oneCell', reduceIte, reduceCtorEq, Nat.reduceEqDiff, Nat.reduceAdd, Nat.reduceMul, Nat.reduceLT, Nat.reduceBEq, Nat.reduceLeDiff, Nat.reduceSub, List.size_toArray]
      try exact ⟨rfl, rfl, rfl, rfl⟩
    · refine ITri.reg pok ?_; simp -implicitDefEqProofs (disch := first | decide | exact of_eq_true (eq_true rfl) | omega | assumption) only [h5, decide_true, decide_false,  ↓vcD, vcE, evs, evP, evB, intsOf, fillC, Value.cells, pt, List.append_nil, List.nil_append, List.cons_append, List.length_cons, List.length_nil, List.filter_nil, List.map_nil, ↓List.getElem?_cons_zero, ↓List.getElem?_cons_succ, List.getElem?_cons_zero, List.getElem?_cons_succ, List.set_cons_zero, List.set_cons_succ, Option.join_some, Option.join_none, Option.map_some, List.all_cons, List.all_nil, Value.oneCell', reduceIte, reduceCtorEq, Nat.reduceEqDiff, Nat.reduceAdd, Nat.reduceMul, Nat.reduceLT, Nat.reduceBEq, Nat.reduceLeDiff, Nat.reduceSub, List.size_toArray]
      try exact ⟨rfl, rfl, rfl, rfl⟩
  refine ITri.cond (v := false) rfl (fun h => by cases h) (fun _ => ?_)
  refine ITri.skip ?_; simp only [SeqQ_normal, BlkQ_normal]
  refine ITri.seq ?_
  have e9 : (rows eI bd).length = nd := by rw [rows_len, Nat.mul_one, hnd]
  by_cases h6 : nd = 0
  · have hbd : bd = [] := List.eq_nil_of_length_eq_zero (by omega)
    subst hbd
    subst h6
    refine ITri.seq ?_
    refine ITri.draw pok ?_; simp -implicitDefEqProofs (disch := first | decide | exact of_eq_true (eq_true rfl) | omega | assumption) only [appK_0,  ↓vcD, vcE, evs, evP, evB, intsOf, fillC, Value.cells, pt, List.append_nil, List.nil_append, List.cons_append, List.length_cons, List.length_nil, List.filter_nil, List.map_nil, ↓List.getElem?_cons_zero, ↓List.getElem?_cons_succ, List.getElem?_cons_zero, List.getElem?_cons_succ, List.set_cons_zero, List.set_cons_succ, Option.join_some, Option.join_none, Option.map_some, List.all_cons, List.all_nil, Value.oneCell', reduceIte, reduceCtorEq, Nat.reduceEqDiff, Nat.reduceAdd, Nat.reduceMul, Nat.reduceLT, Nat.reduceBEq, Nat.reduceLeDiff, Nat.reduceSub, List.size_toArray] -- r14 plain.go:35 CALLS .call F16 [%149] .call F34 [%150, %151, %155]
    refine ⟨_, _, own_f n l hn hb (sees0 rfl (of_decide_eq_true rfl)) (Rd.hq rfl rfl), ?_⟩
    simp -implicitDefEqProofs (disch := first | decide | exact of_eq_true (eq_true rfl) | omega | assumption) only [appK_0,  ↓vcD, vcE, evs, evP, evB, intsOf, fillC, Value.cells, pt, List.append_nil, List.nil_append, List.cons_append, List.length_cons, List.length_nil, List.filter_nil, List.map_nil, ↓List.getElem?_cons_zero, ↓List.getElem?_cons_succ, List.getElem?_cons_zero, List.getElem?_cons_succ, List.set_cons_zero, List.set_cons_succ, Option.join_some, Option.join_none, Option.map_some, List.all_cons, List.all_nil, Value.oneCell', reduceIte, reduceCtorEq, Nat.reduceEqDiff, Nat.reduceAdd, Nat.reduceMul, Nat.reduceLT, Nat.reduceBEq, Nat.reduceLeDiff, Nat.reduceSub, List.size_toArray]
    have hp2 : provesF l k1 k2 k3 [] = false := by
      cases hq : provesF l k1 k2 k3 [] with
      | false => rfl
      | true =>
        have := (proves_ge hq).2.1
        exact absurd this.symm hne
    refine ⟨_, _, proves_f n l k1 k2 k3 0 [] hn hb rfl (by omega) (sees0 rfl (of_decide_eq_true rfl)) (Rd.hq rfl rfl) (Rd.hq rfl rfl), ?_⟩
    simp -implicitDefEqProofs (disch := first | decide | exact of_eq_true (eq_true rfl) | omega | assumption) only [h2, hp2,  ↓vcD, vcE, evs, evP, evB, intsOf, fillC, Value.cells, pt, List.append_nil, List.nil_append, List.cons_append, List.length_cons, List.length_nil, List.filter_nil, List.map_nil, ↓List.getElem?_cons_zero, ↓List.getElem?_cons_succ, List.getElem?_cons_zero, List.getElem?_cons_succ, List.set_cons_zero, List.set_cons_succ, Option.join_some, Option.join_none, Option.map_some, List.all_cons, List.all_nil, Value.oneCell', reduceIte, reduceCtorEq, Nat.reduceEqDiff, Nat.reduceAdd, Nat.reduceMul, Nat.reduceLT, Nat.reduceBEq, Nat.reduceLeDiff, Nat.reduceSub, List.size_toArray]
    refine ITri.seq ?_
    refine ITri.reg pok ?_; simp -implicitDefEqProofs (disch := first | decide | exact of_eq_true (eq_true rfl) | omega | assumption) only [decide_true, Bool.not_true,  ↓vcD, vcE, evs, evP, evB, intsOf, fillC, Value.cells, pt, List.append_nil, List.nil_append, List.cons_append, List.length_cons, List.length_nil, List.filter_nil, List.map_nil, ↓List.getElem?_cons_zero, ↓List.getElem?_cons_succ, List.getElem?_cons_zero, List.getElem?_cons_succ, List.set_cons_zero, List.set_cons_succ, Option.join_some, Option.join_none, Option.map_some, List.all_cons, List.all_nil, Value.oneCell', reduceIte, reduceCtorEq, Nat.reduceEqDiff, Nat.reduceAdd, Nat.reduceMul, Nat.reduceLT, Nat.reduceBEq, Nat.reduceLeDiff, Nat.reduceSub, List.size_toArray]
    refine ITri.cond (v := false) rfl (fun h => by cases h) (fun _ => ?_)
    refine ITri.skip ?_; simp only [SeqQ_normal, BlkQ_normal]
    refine ITri.seq ?_
    refine ITri.reg pok ?_; simp -implicitDefEqProofs (disch := first | decide | exact of_eq_true (eq_true rfl) | omega | assumption) only [ ↓vcD, vcE, evs, evP, evB, intsOf, fillC, Value.cells, pt, List.append_nil, List.nil_append, List.cons_append, List.length_cons, List.length_nil, List.filter_nil, List.map_nil, ↓List.getElem?_cons_zero, ↓List.getElem?_cons_succ, List.getElem?_cons_zero, List.getElem?_cons_succ, List.set_cons_zero, List.set_cons_succ, Option.join_some, Option.join_none, Option.map_some, List.all_cons, List.all_nil, Value.oneCell', reduceIte, reduceCtorEq, Nat.reduceEqDiff, Nat.reduceAdd, Nat.reduceMul, Nat.reduceLT, Nat.reduceBEq, Nat.reduceLeDiff, Nat.reduceSub, List.size_toArray]
    refine ⟨_, _, known_f, ?_⟩
    try simp -implicitDefEqProofs (disch := first | decide | exact of_eq_true (eq_true rfl) | omega | assumption) only [ ↓vcD, vcE, evs, evP, evB, intsOf, fillC, Value.cells, pt, List.append_nil, List.nil_append, List.cons_append, List.length_cons, List.length_nil, List.filter_nil, List.map_nil, ↓List.getElem?_cons_zero, ↓List.getElem?_cons_succ, List.getElem?_cons_zero, List.getElem?_cons_succ, List.set_cons_zero, List.set_cons_succ, Option.join_some, Option.join_none, Option.map_some, List.all_cons, List.all_nil, Value.oneCell', reduceIte, reduceCtorEq, Nat.reduceEqDiff, Nat.reduceAdd, Nat.reduceMul, Nat.reduceLT, Nat.reduceBEq, Nat.reduceLeDiff, Nat.reduceSub, List.size_toArray]
    refine ITri.ret ?_; exact EndR.plain (by simp) (by rfl) (by rfl) (by rfl)
  refine ITri.seq ?_
  refine ITri.draw pok ?_; simp -implicitDefEqProofs (disch := first | decide | exact of_eq_true (eq_true rfl) | omega | assumption) only [ ↓vcD, vcE, evs, evP, evB, intsOf, fillC, Value.cells, pt, List.append_nil, List.nil_append, List.cons_append, List.length_cons, List.length_nil, List.filter_nil, List.map_nil, ↓List.getElem?_cons_zero, ↓List.getElem?_cons_succ, List.getElem?_cons_zero, List.getElem?_cons_succ, List.set_cons_zero, List.set_cons_succ, Option.join_some, Option.join_none, Option.map_some, List.all_cons, List.all_nil, Value.oneCell', reduceIte, reduceCtorEq, Nat.reduceEqDiff, Nat.reduceAdd, Nat.reduceMul, Nat.reduceLT, Nat.reduceBEq, Nat.reduceLeDiff, Nat.reduceSub, List.size_toArray] -- r14 plain.go:35 CALLS .call F16 [%149] .call F34 [%150, %151, %155]
  refine ⟨_, _, own_f n l hn hb (sees0 rfl (of_decide_eq_true rfl)) (Rd.hq rfl rfl), ?_⟩
  simp -implicitDefEqProofs (disch := first | decide | exact of_eq_true (eq_true rfl) | omega | assumption) only [e9,  ↓vcD, vcE, evs, evP, evB, intsOf, fillC, Value.cells, pt, List.append_nil, List.nil_append, List.cons_append, List.length_cons, List.length_nil, List.filter_nil, List.map_nil, ↓List.getElem?_cons_zero, ↓List.getElem?_cons_succ, List.getElem?_cons_zero, List.getElem?_cons_succ, List.set_cons_zero, List.set_cons_succ, Option.join_some, Option.join_none, Option.map_some, List.all_cons, List.all_nil, Value.oneCell', reduceIte, reduceCtorEq, Nat.reduceEqDiff, Nat.reduceAdd, Nat.reduceMul, Nat.reduceLT, Nat.reduceBEq, Nat.reduceLeDiff, Nat.reduceSub, List.size_toArray]
  refine ⟨_, _, proves_f n l k1 k2 k3 nd bd hn hb hnd (by omega) (sees0 rfl (of_decide_eq_true rfl)) (Rd.hq rfl rfl) (Rd.hq rfl rfl), ?_⟩
  simp -implicitDefEqProofs (disch := first | decide | exact of_eq_true (eq_true rfl) | omega | assumption) only [h2,  ↓vcD, vcE, evs, evP, evB, intsOf, fillC, Value.cells, pt, List.append_nil, List.nil_append, List.cons_append, List.length_cons, List.length_nil, List.filter_nil, List.map_nil, ↓List.getElem?_cons_zero, ↓List.getElem?_cons_succ, List.getElem?_cons_zero, List.getElem?_cons_succ, List.set_cons_zero, List.set_cons_succ, Option.join_some, Option.join_none, Option.map_some, List.all_cons, List.all_nil, Value.oneCell', reduceIte, reduceCtorEq, Nat.reduceEqDiff, Nat.reduceAdd, Nat.reduceMul, Nat.reduceLT, Nat.reduceBEq, Nat.reduceLeDiff, Nat.reduceSub, List.size_toArray]
  refine ITri.seq ?_
  refine ITri.one [(179, .bool false)] ?_ ?_
  · cases hp2 : provesF l k1 k2 k3 bd with
    | false =>
      refine ITri.reg pok ?_; simp -implicitDefEqProofs (disch := first | decide | exact of_eq_true (eq_true rfl) | omega | assumption) only [decide_true, Bool.not_true,  ↓vcD, vcE, evs, evP, evB, intsOf, fillC, Value.cells, pt, List.append_nil, List.nil_append, List.cons_append, List.length_cons, List.length_nil, List.filter_nil, List.map_nil, ↓List.getElem?_cons_zero, ↓List.getElem?_cons_succ, List.getElem?_cons_zero, List.getElem?_cons_succ, List.set_cons_zero, List.set_cons_succ, Option.join_some, Option.join_none, Option.map_some, List.all_cons, List.all_nil, Value.oneCell', reduceIte, reduceCtorEq, Nat.reduceEqDiff, Nat.reduceAdd, Nat.reduceMul, Nat.reduceLT, Nat.reduceBEq, Nat.reduceLeDiff, Nat.reduceSub, List.size_toArray]
      try exact ⟨rfl, rfl, rfl, rfl⟩
    | true =>
      obtain ⟨_, q1, q2⟩ := proves_ge hp2
      have q3 := q2 0 (by omega)
      rw [bestT_bnd h2] at q3
      have q4 : ¬ nth bd 0 < bestT l k1 k2 k3 := by omega
      have q5 : (nd : Int) = ((bndL l k1 k2 k3).length : Int) := by omega
      refine ITri.reg pok ?_; simp -implicitDefEqProofs (disch := first | decide | exact of_eq_true (eq_true rfl) | omega | assumption) only [q5, q4, getI, show Int.toNat 0 = 0 from rfl, Nat.zero_mul, decide_true, decide_false, Bool.not_true,  ↓vcD, vcE, evs, evP, evB, intsOf, fillC, Value.cells, pt, List.append_nil, List.nil_append, List.cons_append, List.length_cons, List.length_nil, List.filter_nil, List.map_nil, ↓List.getElem?_cons_zero, ↓List.getElem?_cons_succ, List.getElem?_cons_zero, List.getElem?_cons_succ, List.set_cons_zero, List.set_cons_succ, Option.join_some, Option.join_none, Option.map_some, List.all_cons, List.all_nil, Value.oneCell', reduceIte, reduceCtorEq, Nat.reduceEqDiff, Nat.reduceAdd, Nat.reduceMul, Nat.reduceLT, Nat.reduceBEq, Nat.reduceLeDiff, Nat.reduceSub, List.size_toArray]
      try exact ⟨rfl, rfl, rfl, rfl⟩
  refine ITri.cond (v := false) rfl (fun h => by cases h) (fun _ => ?_)
  refine ITri.skip ?_; simp only [SeqQ_normal, BlkQ_normal]
  refine ITri.seq ?_
  refine ITri.reg pok ?_; simp -implicitDefEqProofs (disch := first | decide | exact of_eq_true (eq_true rfl) | omega | assumption) only [ ↓vcD, vcE, evs, evP, evB, intsOf, fillC, Value.cells, pt, List.append_nil, List.nil_append, List.cons_append, List.length_cons, List.length_nil, List.filter_nil, List.map_nil, ↓List.getElem?_cons_zero, ↓List.getElem?_cons_succ, List.getElem?_cons_zero, List.getElem?_cons_succ, List.set_cons_zero, List.set_cons_succ, Option.join_some, Option.join_none, Option.map_some, List.all_cons, List.all_nil, Value.oneCell', reduceIte, reduceCtorEq, Nat.reduceEqDiff, Nat.reduceAdd, Nat.reduceMul, Nat.reduceLT, Nat.reduceBEq, Nat.reduceLeDiff, Nat.reduceSub, List.size_toArray]
  refine ⟨_, _, known_f, ?_⟩
  try simp -implicitDefEqProofs (disch := first | decide | exact of_eq_true (eq_true rfl) | omega | assumption) only [ ↓vcD, vcE, evs, evP, evB, intsOf, fillC, Value.cells, pt, List.append_nil, List.nil_append, List.cons_append, List.length_cons, List.length_nil, List.filter_nil, List.map_nil, ↓List.getElem?_cons_zero, ↓List.getElem?_cons_succ, List.getElem?_cons_zero, List.getElem?_cons_succ, List.set_cons_zero, List.set_cons_succ, Option.join_some, Option.join_none, Option.map_some, List.all_cons, List.all_nil, Value.oneCell', reduceIte, reduceCtorEq, Nat.reduceEqDiff, Nat.reduceAdd, Nat.reduceMul, Nat.reduceLT, Nat.reduceBEq, Nat.reduceLeDiff, Nat.reduceSub, List.size_toArray]
  refine ITri.ret ?_; exact EndR.plain (by simp) (by rfl) (by rfl) (by rfl)
end Go.Proofs.Ytlkfcbdbieenhaa
