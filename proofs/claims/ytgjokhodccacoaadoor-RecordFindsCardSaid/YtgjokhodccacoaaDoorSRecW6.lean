import Derived.Test.YtgjokhodccacoaaDoorSRecW5
import Derived.Test.YtgjokhodccacoaaDoorSRecP3
set_option linter.unusedSimpArgs false
set_option linter.unusedVariables false
namespace Go.Proofs.YtgjokhodccacoaaDoor
open Go.RowKit Go.Vm
set_option maxRecDepth 100000
structure Wr (wl:Nat) (L:List (Option AObj)) (kb k:Nat) (bs:List Int):Prop where
 hwb:wl≤kb
 st:(bs = []∧k = kb∧L[kb]? = some bufE)∨(1≤bs.length∧kb≠k∧wl≤k∧L[kb]? = some (bufO (.slice (some ⟨k,0,none⟩) bs.length openB))∧L[k]? = some (opR bs))
structure WrTo (wl:Nat) (L:List (Option AObj)) (kb k:Nat) (L' : List (Option AObj)) (k' : Nat) (cs:List Int):Prop where
 st:Wr wl L' kb k' cs
 old : ∀ j,j < L.length→j≠kb→j≠k→L'[j]? = L[j]?
 len:L.length≤k'
section
variable {wl kb k k' k'' : Nat} {L L' L'' T:List (Option AObj)} {bs cs ds:List Int}
theorem Wr.lt (W:Wr wl L kb k bs):kb < L.length∧k < L.length:=by
 rcases W.st with ⟨_,rfl,h⟩|⟨_,_,_,h1,h2⟩
 ·exact ⟨get_lt h,get_lt h⟩
 ·exact ⟨get_lt h1,get_lt h2⟩
theorem Wr.app (W:Wr wl L kb k bs):Wr wl (L++T) kb k bs:=by
 refine ⟨W.hwb,?_⟩
 rcases W.st with ⟨h0,h1,h⟩|⟨h0,h1,h2,h3,h4⟩
 ·exact .inl ⟨h0,h1,low_get h⟩
 ·exact .inr ⟨h0,h1,h2,low_get h3,low_get h4⟩
theorem WrTo.lt (T:WrTo wl L kb k L' k' cs) (W:Wr wl L kb k bs):k' < L'.length∧L.length < L'.length:=⟨T.st.lt.2,by have:=T.st.lt.2; have:=T.len; omega⟩
theorem WrTo.trans (W:Wr wl L kb k bs) (A:WrTo wl L kb k L' k' cs) (B:WrTo wl L' kb k' L'' k'' ds):WrTo wl L kb k L'' k'' ds :=
 ⟨B.st,fun j h1 h2 h3=>by
  have:=A.lt W
  rw [B.old j (by omega) h2 (by have:=A.len; omega),A.old j h1 h2 h3],by
  have:=A.lt W
  have:=B.len
  omega⟩
theorem WrTo.low (A:WrTo wl (L++T) kb k L' k' cs):WrTo wl L kb k L' k' cs :=
 ⟨A.st,fun j h1 h2 h3=>by rw [A.old j (by simp; omega) h2 h3,List.getElem?_append_left h1],by have:=A.len; simp at this; omega⟩
theorem wrT_to (hb:L[kb]? = some (bufO (.slice (some ⟨k,0,none⟩) bs.length openB))) (hk:L[k]? = some (opR bs)) (hne:kb≠k) (hwb:wl≤kb) (hc:1≤cs.length):WrTo wl L kb k (wrT L kb k cs) (L.length + 2) cs:=by
 have hbL:=get_lt hb
 have hkL:=get_lt hk
 refine ⟨⟨hwb,.inr ⟨hc,by omega,by omega,?_,?_⟩⟩,fun j h1 h2 h3=>?_,by omega⟩
 ·unfold wrT
  refine low_get ?_
  rw [List.getElem?_set_self (by simpa using hbL)]
 ·unfold wrT
  rw [List.getElem?_append_right (by simp),List.length_set,List.length_set,Nat.add_sub_cancel_left]
  rfl
 ·unfold wrT
  rw [List.getElem?_append_left (by simpa using h1),List.getElem?_set_ne (fun e=>h2 e.symm),List.getElem?_set_ne (fun e=>h3 e.symm)]
theorem wrE_to (hb:L[kb]? = some bufE) (hwb:wl≤kb) (hc:1≤cs.length):WrTo wl L kb k (wrE L kb cs) (L.length + 1) cs:=by
 have hbL:=get_lt hb
 refine ⟨⟨hwb,.inr ⟨hc,by omega,by omega,?_,?_⟩⟩,fun j h1 h2 h3=>?_,by omega⟩
 ·unfold wrE
  refine low_get ?_
  rw [List.getElem?_set_self hbL]
 ·unfold wrE
  rw [List.getElem?_append_right (by simp),List.length_set,Nat.add_sub_cancel_left]
  rfl
 ·unfold wrE
  rw [List.getElem?_append_left (by simpa using h1),List.getElem?_set_ne (fun e=>h2 e.symm)]
theorem write_x {m k2 o2 c2 : Nat} {xs : List Int} {b2 : Blk} (W : Wr wl L kb k bs) (hs : L[k2]? = some (some (AObj.cells b2))) (hx : takeC b2.cells o2 m = some (rows eB xs)) (hxl : xs.length = m) (h2b : k2 ≠ kb) (h2k : k2 ≠ k) (h1 : 1 ≤ m ∨ bs ≠ []) (h64 : bs = [] → m ≤ 64) (hsm : bs.length + m ≤ 1000000000) :
    ∃ L' k',WrTo wl L kb k L' k' (bs++xs)∧Fc Tryd.prog 105 [pt kb,.slice (some ⟨k2,o2,none⟩) m c2] (Hp wl L) (.tuple #[.int .i64 m,.nilIface]) (Hp wl L'):=by
 rcases W.st with ⟨rfl,rfl,h⟩|⟨h0,hne,hwk,h3,h4⟩
 ·have hm : 0 < m := by
    rcases h1 with h1|h1
    ·exact h1
    ·exact absurd rfl h1
  exact ⟨_,_,wrE_to h W.hwb (by rw [List.nil_append]; omega),write_e h hs hx hxl h2b W.hwb hm (h64 rfl)⟩
 ·exact ⟨_,_,wrT_to h3 h4 hne W.hwb (by rw [List.length_append]; omega),write_w h3 h4 rfl h0 hs hx hxl h2b h2k hne hwk W.hwb hsm⟩
theorem wbyte_x {v : Int} (W : Wr wl L kb k bs) (hsm : bs.length + 1 ≤ 1000000000) :
    ∃ L' k',WrTo wl L kb k L' k' (bs++[v])∧Fc Tryd.prog 104 [pt kb,.int .u8 v] (Hp wl L) .nilIface (Hp wl L'):=by
 rcases W.st with ⟨rfl,rfl,h⟩|⟨h0,hne,hwk,h3,h4⟩
 ·exact ⟨_,_,wrE_to h W.hwb (by simp),wbyte_e h W.hwb⟩
 ·exact ⟨_,_,wrT_to h3 h4 hne W.hwb (by simp),wbyte_w h3 h4 rfl h0 hne hwk W.hwb hsm⟩
theorem len_x (W:Wr wl L kb k bs) (hsm:bs.length≤1000000000):Fc Tryd.prog 103 [pt kb] (Hp wl L) (.int .i64 bs.length) (Hp wl L):=by
 rcases W.st with ⟨rfl,rfl,h⟩|⟨h0,hne,hwk,h3,h4⟩
 ·exact len_w (n:=0) h (by omega)
 ·exact len_w h3 (by omega)
theorem number_x {N : Nat} (W : Wr wl L kb k bs) (hN : N < 4611686018427387904) (hsm : bs.length + 9 ≤ 1000000000) :
    ∃ L' k',WrTo wl L kb k L' k' (bs++groups N)∧Fc Tryd.prog 75 [pt kb,.int .i64 N] (Hp wl L) (.tuple #[]) (Hp wl L'):=by
 obtain ⟨g1,g2⟩:=groups_len (N:=N) (by omega)
 have hlt:=W.lt
 have hT:takeC (rows eB (List.replicate (9 - (groups N).length) 0++groups N)) (9 - (groups N).length) (groups N).length = some (rows eB (groups N)):=by
  rw [takeC_eq _ _ _ (by rw [rows_len,List.length_append,List.length_replicate]; omega),rows_append,List.drop_append_of_le_length (by rw [rows_len,List.length_replicate]; omega),List.drop_of_length_le (by rw [rows_len,List.length_replicate]; omega),List.nil_append,List.take_of_length_le (by rw [rows_len]; omega)]
 obtain ⟨L',k',T,F⟩:=write_x (m:=(groups N).length) (k2:=L.length) (o2:=9 - (groups N).length) (c2:=(groups N).length) (xs:=groups N) (b2:=⟨rows eB (List.replicate (9 - (groups N).length) 0++groups N),1,false⟩) (W.app (T:=[arB (List.replicate (9 - (groups N).length) 0++groups N)])) (by rw [List.getElem?_append_right (Nat.le_refl _),Nat.sub_self]; rfl) hT rfl (by omega) (by omega) (.inl g2) (fun _=>by omega) (by omega)
 refine ⟨L',k',T.low,?_⟩
 have a0:=bt_and7 (a:=N) (by omega)
 have a1:=shr7 (a:=N)
 have hwL:wl≤L.length:=by have:=W.hwb; omega
 have h88:Int.toNat 8≤8:=by decide
 refine Fc.introX fn75 (by simp) (fun hw=>(grow_hq (by simp) (by rw [List.take_append_of_le_length (by exact hw)])).trans (F.grow (by show wl≤(L++[_]).length; have:wl≤L.length:=hw; simp; omega))) ?_; simp only [argF]
 refine ITri.seq ?_
 refine ITri.reg pok ?_; simp -implicitDefEqProofs (disch:=first|decide|exact of_eq_true (eq_true rfl)|omega|assumption) only [↓vcD,vcE,↓vcG,vcF,evs,evP,evB,intsOf,fillC,Value.cells,pt,Value.oneCell',reduceIte,reduceCtorEq,Nat.reduceEqDiff,Nat.reduceAdd,Nat.reduceMul,Nat.reduceLT,Nat.reduceBEq,Nat.reduceLeDiff,Nat.reduceSub]
 refine ITri.seq ?_
 refine ITri.reg pok ?_; simp -implicitDefEqProofs (disch:=first|decide|exact of_eq_true (eq_true rfl)|omega|assumption) only [↓vcD,vcE,↓vcG,vcF,evs,evP,evB,intsOf,fillC,Value.cells,pt,Value.oneCell',reduceIte,reduceCtorEq,Nat.reduceEqDiff,Nat.reduceAdd,Nat.reduceMul,Nat.reduceLT,Nat.reduceBEq,Nat.reduceLeDiff,Nat.reduceSub]
 refine ITri.seq ?_
 refine ITri.reg pok ?_; simp -implicitDefEqProofs (disch:=first|decide|exact of_eq_true (eq_true rfl)|omega|assumption) only [a0,apd_get,apd_get0,apd_set0,apd_set,List.length_append,List.append_assoc,Nat.add_assoc,hwL,h88, ↓vcD,vcE,↓vcG,vcF,evs,evP,evB,intsOf,fillC,Value.cells,pt,Value.oneCell',reduceIte,reduceCtorEq,Nat.reduceEqDiff,Nat.reduceAdd,Nat.reduceMul,Nat.reduceLT,Nat.reduceBEq,Nat.reduceLeDiff,Nat.reduceSub]
 refine ITri.seq ?_
 refine ITri.seq ?_
 refine ITri.reg pok ?_; simp -implicitDefEqProofs (disch:=first|decide|exact of_eq_true (eq_true rfl)|omega|assumption) only [a1, ↓vcD,vcE,↓vcG,vcF,evs,evP,evB,intsOf,fillC,Value.cells,pt,Value.oneCell',reduceIte,reduceCtorEq,Nat.reduceEqDiff,Nat.reduceAdd,Nat.reduceMul,Nat.reduceLT,Nat.reduceBEq,Nat.reduceLeDiff,Nat.reduceSub]
 refine ITri.block ?_
 have z9:some (AObj.cells ⟨[Value.int .u8 0,.int .u8 0,.int .u8 0,.int .u8 0,.int .u8 0,.int .u8 0,.int .u8 0,.int .u8 0,.int .u8 0].set (Int.toNat 8) (.int .u8 (N % 128:Nat)),1,false⟩) = arB (List.replicate (9 - [((N % 128:Nat):Int)].length) 0++[((N % 128:Nat):Int)]):=rfl
 rw [z9]
 refine ITri.loop (fun s:Nat×List Int=>[(0,pt kb),(1,.int .i64 s.1),(4,pt L.length),(5,.int .i64 (9 - s.2.length:Nat))]) (fun _=>[]) (fun s=>Hp wl (L++[arB (List.replicate (9 - s.2.length) 0++s.2)])) (GrJ N) (fun s=>s.1) (N / 128,[((N % 128:Nat):Int)]) (gr_begin (by omega)) (Wk.sub ⟨rfl,rfl,rfl,rfl,trivial⟩) fun s J=>?_
 obtain ⟨m,acc⟩:=s
 refine ITri.seq ?_
 refine ITri.seq ?_
 refine ITri.reg pok ?_; simp -implicitDefEqProofs (disch:=first|decide|exact of_eq_true (eq_true rfl)|omega|assumption) only [↓vcD,vcE,↓vcG,vcF,evs,evP,evB,intsOf,fillC,Value.cells,pt,Value.oneCell',reduceIte,reduceCtorEq,Nat.reduceEqDiff,Nat.reduceAdd,Nat.reduceMul,Nat.reduceLT,Nat.reduceBEq,Nat.reduceLeDiff,Nat.reduceSub]
 refine ITri.condD (by rfl) (fun h2=>?_) (fun h2=>?_)
 ·obtain ⟨J2,h9⟩:=gr_step J (by omega)
  have a2:((9 - acc.length:Nat):Int) - 1 = ((9 - (acc.length + 1):Nat):Int):=by omega
  have hm64:m < 9223372036854775808:=by
   obtain ⟨j1,j2,j3,j4,j5⟩:=J
   simp only at j3 j4
   have:128 ^ (9 - acc.length)≤128 ^ 8:=Nat.pow_le_pow_right (by decide) (by omega)
   omega
  have a3:=bt_and7 (a:=m) hm64
  have a4:=bt_or7 (a:=m % 128) (by omega)
  have a5:=shr7 (a:=m)
  have hw:writeAt (rows eB (List.replicate (9 - acc.length) 0++acc)) (9 - (acc.length + 1)) [.int .u8 ((128 + m % 128:Nat):Int)] = rows eB (List.replicate (9 - (acc.length + 1)) 0++(((128 + m % 128:Nat):Int) :: acc)):=by
   have hk:9 - acc.length = (9 - (acc.length + 1)) + 1:=by omega
   generalize 9 - (acc.length + 1) = k at *
   rw [hk,writeAt_1 _ _ _ (by rw [rows_len,List.length_append,List.length_replicate]; omega),List.replicate_succ',List.append_assoc,rows_append,rows_append,List.set_append_right _ _ (by rw [rows_len,List.length_replicate]; omega),rows_len,List.length_replicate,Nat.mul_one,Nat.sub_self,rows_append _ (_ :: acc)]
   rfl
  have hlen:(rows eB (List.replicate (9 - acc.length) 0++acc)).length = 9:=by
   rw [rows_len,List.length_append,List.length_replicate]; omega
  refine ITri.skip ?_; simp only [SeqQ_normal,BlkQ_normal]
  refine ITri.seq ?_
  refine ITri.block ?_
  refine ITri.seq ?_
  refine ITri.reg pok ?_; simp -implicitDefEqProofs (disch:=first|decide|exact of_eq_true (eq_true rfl)|omega|assumption) only [a2, ↓vcD,vcE,↓vcG,vcF,evs,evP,evB,intsOf,fillC,Value.cells,pt,Value.oneCell',reduceIte,reduceCtorEq,Nat.reduceEqDiff,Nat.reduceAdd,Nat.reduceMul,Nat.reduceLT,Nat.reduceBEq,Nat.reduceLeDiff,Nat.reduceSub]
  refine ITri.reg pok ?_; simp -implicitDefEqProofs (disch:=first|decide|exact of_eq_true (eq_true rfl)|omega|assumption) only [a3,a4,hw,hlen,apd_get,apd_get0,apd_set0,apd_set,List.length_append,List.append_assoc,Nat.add_assoc,hwL, ↓vcD,vcE,↓vcG,vcF,evs,evP,evB,intsOf,fillC,Value.cells,pt,Value.oneCell',reduceIte,reduceCtorEq,Nat.reduceEqDiff,Nat.reduceAdd,Nat.reduceMul,Nat.reduceLT,Nat.reduceBEq,Nat.reduceLeDiff,Nat.reduceSub]
  refine ITri.reg pok ?_; simp -implicitDefEqProofs (disch:=first|decide|exact of_eq_true (eq_true rfl)|omega|assumption) only [a5, ↓vcD,vcE,↓vcG,vcF,evs,evP,evB,intsOf,fillC,Value.cells,pt,Value.oneCell',reduceIte,reduceCtorEq,Nat.reduceEqDiff,Nat.reduceAdd,Nat.reduceMul,Nat.reduceLT,Nat.reduceBEq,Nat.reduceLeDiff,Nat.reduceSub]
  exact LoopQ.next (m / 128,((128 + m % 128:Nat):Int) :: acc) J2 (by show m / 128 < m; omega) (Wk.sub ⟨rfl,rfl,rfl,rfl,trivial⟩)
 refine ITri.exit ?_; try simp -implicitDefEqProofs (disch:=first|decide|exact of_eq_true (eq_true rfl)|omega|assumption) only [↓vcD,vcE,↓vcG,vcF,evs,evP,evB,intsOf,fillC,Value.cells,pt,Value.oneCell',reduceIte,reduceCtorEq,Nat.reduceEqDiff,Nat.reduceAdd,Nat.reduceMul,Nat.reduceLT,Nat.reduceBEq,Nat.reduceLeDiff,Nat.reduceSub]
 obtain rfl:m = 0:=by omega
 obtain ⟨j1,j2,j3,j4,j5⟩:=id J
 obtain rfl:=gr_end J
 simp only at j2 j3
 have ho:9 - (9 - (groups N).length) = (groups N).length:=by omega
 refine ITri.draw pok ?_; simp -implicitDefEqProofs (disch:=first|decide|exact of_eq_true (eq_true rfl)|omega|assumption) only [↓vcD,vcE,↓vcG,vcF,evs,evP,evB,intsOf,fillC,Value.cells,pt,Value.oneCell',reduceIte,reduceCtorEq,Nat.reduceEqDiff,Nat.reduceAdd,Nat.reduceMul,Nat.reduceLT,Nat.reduceBEq,Nat.reduceLeDiff,Nat.reduceSub]
 refine gen_arr u_a9 i_u8 sz_u8 rfl rfl rfl (by omega) (by unfold openB; omega) ?_
 rw [ho]
 try simp -implicitDefEqProofs (disch:=first|decide|exact of_eq_true (eq_true rfl)|omega|assumption) only [↓vcD,vcE,↓vcG,vcF,evs,evP,evB,intsOf,fillC,Value.cells,pt,Value.oneCell',reduceIte,reduceCtorEq,Nat.reduceEqDiff,Nat.reduceAdd,Nat.reduceMul,Nat.reduceLT,Nat.reduceBEq,Nat.reduceLeDiff,Nat.reduceSub]
 refine ⟨_,_,F,?_⟩
 try simp -implicitDefEqProofs (disch:=first|decide|exact of_eq_true (eq_true rfl)|omega|assumption) only [↓vcD,vcE,↓vcG,vcF,evs,evP,evB,intsOf,fillC,Value.cells,pt,Value.oneCell',reduceIte,reduceCtorEq,Nat.reduceEqDiff,Nat.reduceAdd,Nat.reduceMul,Nat.reduceLT,Nat.reduceBEq,Nat.reduceLeDiff,Nat.reduceSub]
 exact EndX.mk (by simp) resF_nil rfl rfl
end
end Go.Proofs.YtgjokhodccacoaaDoor
