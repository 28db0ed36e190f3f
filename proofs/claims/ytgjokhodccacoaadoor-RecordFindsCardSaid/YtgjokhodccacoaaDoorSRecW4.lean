import Derived.Test.YtgjokhodccacoaaDoorSRecW3
set_option linter.unusedSimpArgs false
set_option linter.unusedVariables false
namespace Go.Proofs.YtgjokhodccacoaaDoor
open Go.RowKit Go.Vm
set_option maxRecDepth 100000
abbrev opR (xs:List Int):Option AObj:=some (.cells ⟨rows eB xs,1,true⟩)
def wrT (L:List (Option AObj)) (kb k:Nat) (cs:List Int):List (Option AObj):=(L.set k none).set kb (bufO (.slice (some ⟨L.length + 2,0,none⟩) cs.length openB))++[none,none,opR cs]
theorem snd_set {A:List (Option AObj)} {x y c:Option AObj} {i:Nat} (h:i = A.length + 1):(A++[x,y]).set i c = A++[x,c]:=by
 subst h
 rw [List.set_append_right _ _ (by omega),Nat.add_sub_cancel_left]
 rfl
theorem snd_get {A:List (Option AObj)} {x y:Option AObj} {i:Nat} (h:i = A.length + 1):(A++[x,y])[i]? = some y:=by
 subst h
 rw [List.getElem?_append_right (by omega),Nat.add_sub_cancel_left]
 rfl
section
variable {wl kb:Nat} {L:List (Option AObj)}
theorem writeAt_in {bs xs:List Int} {ys:List Value} {n m:Nat} (hbl:bs.length = n) (hxl:xs.length = m):writeAt (rows eB bs++ys) n (rows eB xs) = rows eB (bs++xs)++ys.drop m:=by
 have hrl:(rows eB bs).length = n:=by rw [rows_len,hbl,Nat.mul_one]
 have hrx:(rows eB xs).length = m:=by rw [rows_len,hxl,Nat.mul_one]
 unfold writeAt
 rw [hrx,List.take_append_of_le_length (by omega),List.take_of_length_le (by omega),List.drop_append,List.drop_of_length_le (by omega),List.nil_append,hrl,Nat.add_sub_cancel_left,rows_append]
theorem noL_drop {ys:List Value} {m:Nat} (h:noAddrL ys = true):noAddrL (ys.drop m) = true:=noL_of fun v hv=>noL_all h v (List.mem_of_mem_drop hv)
theorem write_end {b n m k C k2 o2 c2 : Nat} {bs xs : List Int} {ys : List Value} {b2 : Blk} {T : List (Option AObj)} (hb : L[kb]? = some (bufO (.slice (some ⟨k, 0, none⟩) (n + m) C))) (hk : L[k]? = some (some (AObj.cells ⟨rows eB bs ++ ys, 1, false⟩))) (hbl : bs.length = n) (hyl : n + ys.length = C) (hmC : n + m ≤ C) (hno : noAddrL ys = true)
    (hs:L[k2]? = some (some (AObj.cells b2))) (hx:takeC b2.cells o2 m = some (rows eB xs)) (hxl:xs.length = m) (hne:kb≠k) (hwk:wl≤k) (hwb:wl≤kb) (hn1:1≤n) (hC:C < 9223372036854775808) (hT:((L.set k none).set kb (bufO (.slice (some ⟨L.length,0,none⟩) (n + m) openB)))++[opR (bs++xs)] = T) :
    ITri Tryd.prog 32 none b ir105_3 [(0,pt kb),(1,.slice (some ⟨k2,o2,none⟩) m c2),(6,.int .i64 n)] [] (Hp wl L) (EndX Tryd.prog [.tmp 4,.tmp 5] (.tuple #[.int .i64 m,.nilIface]) (Hp wl T)):=by
 have hCo:C < openB:=by unfold openB; omega
 have hrl:(rows eB bs).length = n:=by rw [rows_len,hbl,Nat.mul_one]
 have hkl:=get_lt hk
 have hne' : rows eB bs≠[]:=fun e=>by rw [e] at hrl; simp at hrl; omega
 refine ITri.seq ?_
 refine ITri.reg pok ?_; simp -implicitDefEqProofs (disch:=first|decide|exact of_eq_true (eq_true rfl)|omega|assumption) only [hb,notNil,true_and, ↓vcD,vcE,↓vcG,vcF,evs,evP,evB,intsOf,fillC,Value.cells,pt,Value.oneCell',reduceIte,reduceCtorEq,Nat.reduceEqDiff,Nat.reduceAdd,Nat.reduceMul,Nat.reduceLT,Nat.reduceBEq,Nat.reduceLeDiff,Nat.reduceSub]
 refine gen_fromC (i:=n) u_slB i_u8 sz_u8 rfl rfl rfl (by omega) hmC hCo ?_
 rw [Nat.add_sub_cancel_left]
 try simp -implicitDefEqProofs (disch:=first|decide|exact of_eq_true (eq_true rfl)|omega|assumption) only [↓vcD,vcE,↓vcG,vcF,evs,evP,evB,intsOf,fillC,Value.cells,pt,Value.oneCell',reduceIte,reduceCtorEq,Nat.reduceEqDiff,Nat.reduceAdd,Nat.reduceMul,Nat.reduceLT,Nat.reduceBEq,Nat.reduceLeDiff,Nat.reduceSub]
 by_cases hm0:m = 0
 ·subst hm0
  have hx0:xs = []:=List.eq_nil_of_length_eq_zero hxl
  subst hx0
  refine bi_copy0 u_slB i_u8 rfl rfl (get_hq rfl (by rw [hk]; rfl)) (by show (if C = n then 0 else n)≤(rows eB bs++ys).length; rw [List.length_append,hrl]; split <;> omega) hwk (by show (1:Nat)≠0; decide) ?_
  try simp -implicitDefEqProofs (disch:=first|decide|exact of_eq_true (eq_true rfl)|omega|assumption) only [↓vcD,vcE,↓vcG,vcF,evs,evP,evB,intsOf,fillC,Value.cells,pt,Value.oneCell',reduceIte,reduceCtorEq,Nat.reduceEqDiff,Nat.reduceAdd,Nat.reduceMul,Nat.reduceLT,Nat.reduceBEq,Nat.reduceLeDiff,Nat.reduceSub]
  refine ITri.reopen (k:=k) (kb:=kb) (o:=0) (n:=n + 0) (C:=C) (by rw [hk]; rfl) hno (by rw [hrl]; exact hyl) hC hmC (by simp [hne']) (by rw [hb]; rfl) rfl hne hwk hwb ?_
  refine ITri.ret ?_; refine EndX.mk (by simp) (resF_tmp rfl (resF_tmp rfl resF_nil)) rfl ?_
  rw [← hT,List.append_nil]
  rfl
 ·have hCn : ¬ C = n:=by omega
  rw [if_neg hCn]
  refine bi_copyM u_slB i_u8 sz_u8 rfl (Nat.min_self m) hm0 (get_hq rfl (by rw [hk]; rfl)) (get_hq rfl (by rw [hs]; rfl)) hx (by show n + m≤(rows eB bs++ys).length; rw [List.length_append,hrl]; omega) hwk (rows_one' (f:=eB) _) (by show (1:Nat)≠0; decide) ?_
  rw [Hq_put k _ hkl]
  simp -implicitDefEqProofs (disch:=first|decide|exact of_eq_true (eq_true rfl)|omega|assumption) only [writeAt_in hbl hxl, ↓vcD,vcE,↓vcG,vcF,evs,evP,evB,intsOf,fillC,Value.cells,pt,Value.oneCell',reduceIte,reduceCtorEq,Nat.reduceEqDiff,Nat.reduceAdd,Nat.reduceMul,Nat.reduceLT,Nat.reduceBEq,Nat.reduceLeDiff,Nat.reduceSub]
  have hk3:(L.set k (some (AObj.cells ⟨rows eB (bs++xs)++ys.drop m,1,false⟩)))[k]? = some (some (AObj.cells ⟨rows eB (bs++xs)++ys.drop m,1,false⟩)):=set_get hk
  have hb3:(L.set k (some (AObj.cells ⟨rows eB (bs++xs)++ys.drop m,1,false⟩)))[kb]? = some (bufO (.slice (some ⟨k,0,none⟩) (n + m) C)):=by rw [List.getElem?_set_ne (fun e=>hne e.symm)]; exact hb
  refine ITri.reopen (k:=k) (kb:=kb) (o:=0) (n:=n + m) (C:=C) (by rw [hk3]; rfl) (noL_drop hno) (by rw [rows_len,List.length_append,List.length_drop,hbl,hxl]; omega) hC hmC (by
   intro e
   have:=congrArg List.length e
   rw [List.length_append,rows_len,List.length_append,hbl] at this
   simp at this
   omega) (by rw [hb3]; rfl) rfl hne hwk hwb ?_
  refine ITri.ret ?_; refine EndX.mk (by simp) (resF_tmp rfl (resF_tmp rfl resF_nil)) rfl ?_
  rw [← hT]
  unfold opAt
  rw [List.set_set,List.length_set]
  rfl
theorem write_w {n m k k2 o2 c2 : Nat} {bs xs : List Int} {b2 : Blk} (hb : L[kb]? = some (bufO (.slice (some ⟨k, 0, none⟩) n openB))) (hk : L[k]? = some (opR bs)) (hbl : bs.length = n) (hn1 : 1 ≤ n) (hs : L[k2]? = some (some (AObj.cells b2))) (hx : takeC b2.cells o2 m = some (rows eB xs)) (hxl : xs.length = m) (h2b : k2 ≠ kb) (h2k : k2 ≠ k) (hne : kb ≠ k) (hwk : wl ≤ k) (hwb : wl ≤ kb) (hsm : n + m ≤ 1000000000) :
    Fc Tryd.prog 105 [pt kb,.slice (some ⟨k2,o2,none⟩) m c2] (Hp wl L) (.tuple #[.int .i64 m,.nilIface]) (Hp wl (wrT L kb k (bs++xs))):=by
 have hbL:=get_lt hb
 have hkL:=get_lt hk
 have h2L:=get_lt hs
 have hrl:(rows eB bs).length = n:=by rw [rows_len,hbl,Nat.mul_one]
 have hcl:(bs++xs).length = n + m:=by rw [List.length_append,hbl,hxl]
 refine Fc.introX fn105 (by simp) (fun _=>grow_hq (by simp [wrT]) (by unfold wrT; rw [List.take_append_of_le_length (by simp; omega),set_tk hwb,set_tk hwk])) ?_; simp only [argF]
 refine ITri.seq ?_
 refine ITri.reg pok ?_; simp -implicitDefEqProofs (disch:=first|decide|exact of_eq_true (eq_true rfl)|omega|assumption) only [↓vcD,vcE,↓vcG,vcF,evs,evP,evB,intsOf,fillC,Value.cells,pt,Value.oneCell',reduceIte,reduceCtorEq,Nat.reduceEqDiff,Nat.reduceAdd,Nat.reduceMul,Nat.reduceLT,Nat.reduceBEq,Nat.reduceLeDiff,Nat.reduceSub]
 refine ITri.seq ?_
 refine ITri.reg pok ?_; simp -implicitDefEqProofs (disch:=first|decide|exact of_eq_true (eq_true rfl)|omega|assumption) only [hb,notNil,true_and,hwb,set_id hb, ↓vcD,vcE,↓vcG,vcF,evs,evP,evB,intsOf,fillC,Value.cells,pt,Value.oneCell',reduceIte,reduceCtorEq,Nat.reduceEqDiff,Nat.reduceAdd,Nat.reduceMul,Nat.reduceLT,Nat.reduceBEq,Nat.reduceLeDiff,Nat.reduceSub]
 refine ITri.closeAt (k:=k) (kb:=kb) (o:=0) (n:=n) (by rw [hk]; rfl) (by rw [hb]; rfl) rfl hne hwk hwb fun C zs hC hno hlen hnC=>?_
 rw [hrl] at hlen
 have hbC:(clAt k kb 0 n C (rows eB bs) zs ⟨[.slice (some ⟨k,0,none⟩) n openB,.int .i64 0,.int .i8 0],1,false⟩ L)[kb]? = some (bufO (.slice (some ⟨k,0,none⟩) n C)):=by
  unfold clAt
  rw [List.getElem?_set_self (by simpa using hbL)]
  rfl
 have hkC:(clAt k kb 0 n C (rows eB bs) zs ⟨[.slice (some ⟨k,0,none⟩) n openB,.int .i64 0,.int .i8 0],1,false⟩ L)[k]? = some (some (AObj.cells ⟨rows eB bs++zs,1,false⟩)):=by
  unfold clAt
  rw [List.getElem?_set_ne hne,List.getElem?_set_self hkL]
 have hsC:(clAt k kb 0 n C (rows eB bs) zs ⟨[.slice (some ⟨k,0,none⟩) n openB,.int .i64 0,.int .i8 0],1,false⟩ L)[k2]? = some (some (AObj.cells b2)):=by
  unfold clAt
  rw [List.getElem?_set_ne (fun e=>h2b e.symm),List.getElem?_set_ne (fun e=>h2k e.symm),hs]
 have hlC:(clAt k kb 0 n C (rows eB bs) zs ⟨[.slice (some ⟨k,0,none⟩) n openB,.int .i64 0,.int .i8 0],1,false⟩ L).length = L.length:=clAt_len
 have hfin : ∀ Y,((clAt k kb 0 n C (rows eB bs) zs ⟨[.slice (some ⟨k,0,none⟩) n openB,.int .i64 0,.int .i8 0],1,false⟩ L).set k none).set kb Y = (L.set k none).set kb Y:=by
  intro Y
  unfold clAt
  rw [List.set_comm _ _ hne,List.set_set,List.set_set]
 generalize clAt k kb 0 n C (rows eB bs) zs ⟨[.slice (some ⟨k,0,none⟩) n openB,.int .i64 0,.int .i8 0],1,false⟩ L = L1 at *
 by_cases hroom:n + m≤C
 ·refine ITri.seq ?_
  refine ITri.reg pok ?_; simp -implicitDefEqProofs (disch:=first|decide|exact of_eq_true (eq_true rfl)|omega|assumption) only [↓vcD,vcE,↓vcG,vcF,evs,evP,evB,intsOf,fillC,Value.cells,pt,Value.oneCell',reduceIte,reduceCtorEq,Nat.reduceEqDiff,Nat.reduceAdd,Nat.reduceMul,Nat.reduceLT,Nat.reduceBEq,Nat.reduceLeDiff,Nat.reduceSub]
  refine ⟨_,_,try_yes hbC hwb hroom hC,?_⟩
  try simp -implicitDefEqProofs (disch:=first|decide|exact of_eq_true (eq_true rfl)|omega|assumption) only [↓vcD,vcE,↓vcG,vcF,evs,evP,evB,intsOf,fillC,Value.cells,pt,Value.oneCell',reduceIte,reduceCtorEq,Nat.reduceEqDiff,Nat.reduceAdd,Nat.reduceMul,Nat.reduceLT,Nat.reduceBEq,Nat.reduceLeDiff,Nat.reduceSub]
  refine ITri.seq ?_
  refine ITri.seq ?_
  refine ITri.reg pok ?_; simp -implicitDefEqProofs (disch:=first|decide|exact of_eq_true (eq_true rfl)|omega|assumption) only [Bool.not_true, ↓vcD,vcE,↓vcG,vcF,evs,evP,evB,intsOf,fillC,Value.cells,pt,Value.oneCell',reduceIte,reduceCtorEq,Nat.reduceEqDiff,Nat.reduceAdd,Nat.reduceMul,Nat.reduceLT,Nat.reduceBEq,Nat.reduceLeDiff,Nat.reduceSub]
  refine ITri.cond (v:=false) rfl (fun h=>by cases h) (fun _=>?_); refine ITri.skip ?_; simp only [SeqQ_normal,BlkQ_normal]
  refine ITri.weak (l':=[(0,pt kb),(1,.slice (some ⟨k2,o2,none⟩) m c2),(6,.int .i64 n)]) (ms':=[]) (h':=Hp wl (L1.set kb (bufO (.slice (some ⟨k,0,none⟩) (n + m) C)))) (Wk.sub ⟨rfl,rfl,rfl,trivial⟩) ?_
  refine ITri.pad (ITri.pad ?_)
  have e0 : ∀ (A:List (Option AObj)),A++[none]++[none] = A++[none,none]:=fun A=>by rw [List.append_assoc]; rfl
  rw [e0]
  refine write_end (k:=k) (k2:=k2) (b2:=b2) (bs:=bs) (n:=n) (m:=m) (C:=C) (ys:=zs) (low_get (T:=[none,none]) (set_get hbC)) (by refine low_get (T:=[none,none]) ?_; rw [List.getElem?_set_ne hne]; exact hkC) hbl hlen hroom hno (by refine low_get (T:=[none,none]) ?_; rw [List.getElem?_set_ne (fun e=>h2b e.symm)]; exact hsC) hx hxl hne hwk hwb hn1 hC ?_
  unfold wrT
  rw [snoc_setl (by simp; omega),snoc_setl (by simp; omega),List.set_comm _ _ hne,List.set_set,hfin,hcl,List.append_assoc,List.length_append,List.length_set,hlC]
  rfl
 ·refine ITri.seq ?_
  refine ITri.reg pok ?_; simp -implicitDefEqProofs (disch:=first|decide|exact of_eq_true (eq_true rfl)|omega|assumption) only [↓vcD,vcE,↓vcG,vcF,evs,evP,evB,intsOf,fillC,Value.cells,pt,Value.oneCell',reduceIte,reduceCtorEq,Nat.reduceEqDiff,Nat.reduceAdd,Nat.reduceMul,Nat.reduceLT,Nat.reduceBEq,Nat.reduceLeDiff,Nat.reduceSub]
  refine ⟨_,_,try_no hbC (by omega) hC hnC,?_⟩
  try simp -implicitDefEqProofs (disch:=first|decide|exact of_eq_true (eq_true rfl)|omega|assumption) only [↓vcD,vcE,↓vcG,vcF,evs,evP,evB,intsOf,fillC,Value.cells,pt,Value.oneCell',reduceIte,reduceCtorEq,Nat.reduceEqDiff,Nat.reduceAdd,Nat.reduceMul,Nat.reduceLT,Nat.reduceBEq,Nat.reduceLeDiff,Nat.reduceSub]
  refine ITri.seq ?_
  refine ITri.seq ?_
  refine ITri.reg pok ?_; simp -implicitDefEqProofs (disch:=first|decide|exact of_eq_true (eq_true rfl)|omega|assumption) only [Bool.not_false, ↓vcD,vcE,↓vcG,vcF,evs,evP,evB,intsOf,fillC,Value.cells,pt,Value.oneCell',reduceIte,reduceCtorEq,Nat.reduceEqDiff,Nat.reduceAdd,Nat.reduceMul,Nat.reduceLT,Nat.reduceBEq,Nat.reduceLeDiff,Nat.reduceSub]
  refine ITri.cond (v:=true) rfl (fun _=>?_) (fun h=>by cases h)
  refine ITri.reg pok ?_; simp -implicitDefEqProofs (disch:=first|decide|exact of_eq_true (eq_true rfl)|omega|assumption) only [↓vcD,vcE,↓vcG,vcF,evs,evP,evB,intsOf,fillC,Value.cells,pt,Value.oneCell',reduceIte,reduceCtorEq,Nat.reduceEqDiff,Nat.reduceAdd,Nat.reduceMul,Nat.reduceLT,Nat.reduceBEq,Nat.reduceLeDiff,Nat.reduceSub]
  refine ⟨_,_,grow_w hbC hkC hbl hlen hno hwb hn1 (by omega) hsm,?_⟩
  try simp -implicitDefEqProofs (disch:=first|decide|exact of_eq_true (eq_true rfl)|omega|assumption) only [↓vcD,vcE,↓vcG,vcF,evs,evP,evB,intsOf,fillC,Value.cells,pt,Value.oneCell',reduceIte,reduceCtorEq,Nat.reduceEqDiff,Nat.reduceAdd,Nat.reduceMul,Nat.reduceLT,Nat.reduceBEq,Nat.reduceLeDiff,Nat.reduceSub]
  have hb2:(L1.set kb (bufO (.slice (some ⟨L1.length + 1,0,none⟩) (n + m) openB)))[kb]? = some (bufO (.slice (some ⟨L1.length + 1,0,none⟩) (n + m) openB)):=set_get hbC
  have hA:L1.length + 1 = (L1.set kb (bufO (.slice (some ⟨L1.length + 1,0,none⟩) (n + m) openB))).length + 1:=by rw [List.length_set]
  refine ITri.closeAt (k:=L1.length + 1) (kb:=kb) (o:=0) (n:=n + m) (by rw [snd_get hA]; rfl) (by rw [low_get hb2]; rfl) rfl (by omega) (by omega) hwb fun C3 zs3 hC3 hno3 hlen3 hnC3=>?_
  have hrl3:(rows eB (bs++List.replicate m 0)).length = n + m:=by rw [rows_len,List.length_append,List.length_replicate,hbl,Nat.mul_one]
  rw [hrl3] at hlen3
  have hl2:clAt (L1.length + 1) kb 0 (n + m) C3 (rows eB (bs++List.replicate m 0)) zs3 ⟨[.slice (some ⟨L1.length + 1,0,none⟩) (n + m) openB,.int .i64 0,.int .i8 0],1,false⟩ (L1.set kb (bufO (.slice (some ⟨L1.length + 1,0,none⟩) (n + m) openB))++[none,some (AObj.cells ⟨rows eB (bs++List.replicate m 0),1,true⟩)]) = L1.set kb (bufO (.slice (some ⟨L1.length + 1,0,none⟩) (n + m) C3))++[none,some (AObj.cells ⟨rows eB bs++(rows eB (List.replicate m 0)++zs3),1,false⟩)]:=by
   unfold clAt
   rw [snd_set hA,snoc_setl (by simp; omega),List.set_set,rows_append,List.append_assoc]
   rfl
  rw [hl2]
  refine ITri.kill (k:=k) hwk ?_
  rw [snoc_setl (by simp; omega)]
  have hA2:L1.length + 1 = ((L1.set kb (bufO (.slice (some ⟨L1.length + 1,0,none⟩) (n + m) C3))).set k none).length + 1:=by rw [List.length_set,List.length_set]
  refine write_end (k:=L1.length + 1) (k2:=k2) (b2:=b2) (bs:=bs) (n:=n) (m:=m) (C:=C3) (ys:=rows eB (List.replicate m 0)++zs3) (by refine low_get ?_; rw [List.getElem?_set_ne (fun e=>hne e.symm)]; exact set_get hbC) (snd_get hA2) hbl (by rw [List.length_append,rows_len,List.length_replicate]; omega) hnC3 (noL_app (rows_no (f:=eB) _) hno3) (by refine low_get ?_; rw [List.getElem?_set_ne (fun e=>h2k e.symm),List.getElem?_set_ne (fun e=>h2b e.symm)]; exact hsC) hx hxl (by omega) (by omega) hwb hn1 hC3 ?_
  unfold wrT
  rw [snd_set hA2,snoc_setl (by simp; omega),List.set_comm _ _ (show k≠kb from fun e=>hne e.symm),List.set_set,List.set_comm _ _ hne,hfin,hcl,List.append_assoc,List.length_append,List.length_set,List.length_set,hlC]
  rfl
end
end Go.Proofs.YtgjokhodccacoaaDoor
