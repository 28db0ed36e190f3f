import Derived.Test.YtgjokhodccacoaaDoorSRecW4
set_option linter.unusedSimpArgs false
set_option linter.unusedVariables false
namespace Go.Proofs.YtgjokhodccacoaaDoor
open Go.RowKit Go.Vm
set_option maxRecDepth 100000
def wrE (L:List (Option AObj)) (kb:Nat) (cs:List Int):List (Option AObj):=L.set kb (bufO (.slice (some ⟨L.length + 1,0,none⟩) cs.length openB))++[none,opR cs]
section
variable {wl kb:Nat} {L:List (Option AObj)}
theorem try_e {m:Nat} (hb:L[kb]? = some bufE) (h:0 < m):Fc Tryd.prog 109 [pt kb,.int .i64 m] (Hp wl L) (.tuple #[.int .i64 0,.bool false]) (Hp wl L):=by
 have h' : ¬ (m:Int)≤0:=by omega
 refine Fc.introX fn109 (by simp) (fun _=>Grow.refl _) ?_; simp only [argF]
 refine ITri.seq ?_
 refine ITri.reg pok ?_; simp -implicitDefEqProofs (disch:=first|decide|exact of_eq_true (eq_true rfl)|omega|assumption) only [↓vcD,vcE,↓vcG,vcF,evs,evP,evB,intsOf,fillC,Value.cells,pt,Value.oneCell',reduceIte,reduceCtorEq,Nat.reduceEqDiff,Nat.reduceAdd,Nat.reduceMul,Nat.reduceLT,Nat.reduceBEq,Nat.reduceLeDiff,Nat.reduceSub]
 refine ITri.seq ?_
 refine ITri.seq ?_
 refine ITri.reg pok ?_; simp -implicitDefEqProofs (disch:=first|decide|exact of_eq_true (eq_true rfl)|omega|assumption) only [hb,notNil,true_and, ↓vcD,vcE,↓vcG,vcF,evs,evP,evB,intsOf,fillC,Value.cells,pt,Value.oneCell',reduceIte,reduceCtorEq,Nat.reduceEqDiff,Nat.reduceAdd,Nat.reduceMul,Nat.reduceLT,Nat.reduceBEq,Nat.reduceLeDiff,Nat.reduceSub]
 refine ITri.seq ?_
 refine ITri.reg pok ?_; simp -implicitDefEqProofs (disch:=first|decide|exact of_eq_true (eq_true rfl)|omega|assumption) only [hb,notNil,true_and, ↓vcD,vcE,↓vcG,vcF,evs,evP,evB,intsOf,fillC,Value.cells,pt,Value.oneCell',reduceIte,reduceCtorEq,Nat.reduceEqDiff,Nat.reduceAdd,Nat.reduceMul,Nat.reduceLT,Nat.reduceBEq,Nat.reduceLeDiff,Nat.reduceSub]
 refine bi_cap u_slB rfl (by unfold openB; omega) ?_
 simp -implicitDefEqProofs (disch:=first|decide|exact of_eq_true (eq_true rfl)|omega|assumption) only [z00,Int.sub_zero,h',decide_false, ↓vcD,vcE,↓vcG,vcF,evs,evP,evB,intsOf,fillC,Value.cells,pt,Value.oneCell',reduceIte,reduceCtorEq,Nat.reduceEqDiff,Nat.reduceAdd,Nat.reduceMul,Nat.reduceLT,Nat.reduceBEq,Nat.reduceLeDiff,Nat.reduceSub]
 refine ITri.cond (v:=false) rfl (fun h=>by cases h) (fun _=>?_); refine ITri.skip ?_; simp only [SeqQ_normal,BlkQ_normal]
 refine ITri.seq ?_
 refine ITri.reg pok ?_; simp -implicitDefEqProofs (disch:=first|decide|exact of_eq_true (eq_true rfl)|omega|assumption) only [↓vcD,vcE,↓vcG,vcF,evs,evP,evB,intsOf,fillC,Value.cells,pt,Value.oneCell',reduceIte,reduceCtorEq,Nat.reduceEqDiff,Nat.reduceAdd,Nat.reduceMul,Nat.reduceLT,Nat.reduceBEq,Nat.reduceLeDiff,Nat.reduceSub]
 refine ITri.ret ?_; exact EndX.mk (by simp) (resF_tmp rfl (resF_tmp rfl resF_nil)) rfl rfl
theorem grow_e {m:Nat} (hb:L[kb]? = some bufE) (hwb:wl≤kb) (h:0 < m) (h2:m≤64):Fc Tryd.prog 110 [pt kb,.int .i64 m] (Hp wl L) (.int .i64 0) (Hp wl (L.set kb (bufO (.slice (some ⟨L.length,0,none⟩) m 64))++[arB (List.replicate 64 0)])):=by
 have h' : (m:Int)≤64:=by omega
 have hbL:=get_lt hb
 refine Fc.introX fn110 (by simp) (fun _=>grow_hq (by simp) (by rw [List.take_append_of_le_length (by simp; omega)]; exact set_tk hwb)) ?_; simp only [argF]
 refine ITri.seq ?_
 refine ITri.reg pok ?_; simp -implicitDefEqProofs (disch:=first|decide|exact of_eq_true (eq_true rfl)|omega|assumption) only [↓vcD,vcE,↓vcG,vcF,evs,evP,evB,intsOf,fillC,Value.cells,pt,Value.oneCell',reduceIte,reduceCtorEq,Nat.reduceEqDiff,Nat.reduceAdd,Nat.reduceMul,Nat.reduceLT,Nat.reduceBEq,Nat.reduceLeDiff,Nat.reduceSub]
 refine ITri.seq ?_
 refine ITri.reg pok ?_; simp -implicitDefEqProofs (disch:=first|decide|exact of_eq_true (eq_true rfl)|omega|assumption) only [↓vcD,vcE,↓vcG,vcF,evs,evP,evB,intsOf,fillC,Value.cells,pt,Value.oneCell',reduceIte,reduceCtorEq,Nat.reduceEqDiff,Nat.reduceAdd,Nat.reduceMul,Nat.reduceLT,Nat.reduceBEq,Nat.reduceLeDiff,Nat.reduceSub]
 refine ⟨.int .i64 0,_,len_w (n:=0) hb (by omega),?_⟩
 try simp -implicitDefEqProofs (disch:=first|decide|exact of_eq_true (eq_true rfl)|omega|assumption) only [↓vcD,vcE,↓vcG,vcF,evs,evP,evB,intsOf,fillC,Value.cells,pt,Value.oneCell',reduceIte,reduceCtorEq,Nat.reduceEqDiff,Nat.reduceAdd,Nat.reduceMul,Nat.reduceLT,Nat.reduceBEq,Nat.reduceLeDiff,Nat.reduceSub]
 refine ITri.seq ?_
 refine ITri.seq ?_
 refine ITri.reg pok ?_; simp -implicitDefEqProofs (disch:=first|decide|exact of_eq_true (eq_true rfl)|omega|assumption) only [decide_true,Bool.not_true,hb,notNil,true_and, ↓vcD,vcE,↓vcG,vcF,evs,evP,evB,intsOf,fillC,Value.cells,pt,Value.oneCell',reduceIte,reduceCtorEq,Nat.reduceEqDiff,Nat.reduceAdd,Nat.reduceMul,Nat.reduceLT,Nat.reduceBEq,Nat.reduceLeDiff,Nat.reduceSub]
 refine ITri.cond (v:=false) rfl (fun h=>by cases h) (fun _=>?_); refine ITri.skip ?_; simp only [SeqQ_normal,BlkQ_normal]
 refine ITri.seq ?_
 refine ITri.seq ?_
 refine ITri.reg pok ?_; simp -implicitDefEqProofs (disch:=first|decide|exact of_eq_true (eq_true rfl)|omega|assumption) only [↓vcD,vcE,↓vcG,vcF,evs,evP,evB,intsOf,fillC,Value.cells,pt,Value.oneCell',reduceIte,reduceCtorEq,Nat.reduceEqDiff,Nat.reduceAdd,Nat.reduceMul,Nat.reduceLT,Nat.reduceBEq,Nat.reduceLeDiff,Nat.reduceSub]
 refine ⟨_,_,try_e hb h,?_⟩
 try simp -implicitDefEqProofs (disch:=first|decide|exact of_eq_true (eq_true rfl)|omega|assumption) only [↓vcD,vcE,↓vcG,vcF,evs,evP,evB,intsOf,fillC,Value.cells,pt,Value.oneCell',reduceIte,reduceCtorEq,Nat.reduceEqDiff,Nat.reduceAdd,Nat.reduceMul,Nat.reduceLT,Nat.reduceBEq,Nat.reduceLeDiff,Nat.reduceSub]
 refine ITri.seq ?_
 refine ITri.reg pok ?_; simp -implicitDefEqProofs (disch:=first|decide|exact of_eq_true (eq_true rfl)|omega|assumption) only [↓vcD,vcE,↓vcG,vcF,evs,evP,evB,intsOf,fillC,Value.cells,pt,Value.oneCell',reduceIte,reduceCtorEq,Nat.reduceEqDiff,Nat.reduceAdd,Nat.reduceMul,Nat.reduceLT,Nat.reduceBEq,Nat.reduceLeDiff,Nat.reduceSub]
 refine ITri.cond (v:=false) rfl (fun h=>by cases h) (fun _=>?_); refine ITri.skip ?_; simp only [SeqQ_normal,BlkQ_normal]
 refine ITri.seq ?_
 refine ITri.seq ?_
 refine ITri.reg pok ?_; simp -implicitDefEqProofs (disch:=first|decide|exact of_eq_true (eq_true rfl)|omega|assumption) only [hb,notNil,true_and, ↓vcD,vcE,↓vcG,vcF,evs,evP,evB,intsOf,fillC,Value.cells,pt,Value.oneCell',reduceIte,reduceCtorEq,Nat.reduceEqDiff,Nat.reduceAdd,Nat.reduceMul,Nat.reduceLT,Nat.reduceBEq,Nat.reduceLeDiff,Nat.reduceSub]
 refine gen_nil0 rfl ?_
 simp -implicitDefEqProofs (disch:=first|decide|exact of_eq_true (eq_true rfl)|omega|assumption) only [h',decide_true, ↓vcD,vcE,↓vcG,vcF,evs,evP,evB,intsOf,fillC,Value.cells,pt,Value.oneCell',reduceIte,reduceCtorEq,Nat.reduceEqDiff,Nat.reduceAdd,Nat.reduceMul,Nat.reduceLT,Nat.reduceBEq,Nat.reduceLeDiff,Nat.reduceSub]
 refine ITri.cond (v:=true) rfl (fun _=>?_) (fun h=>by cases h)
 refine ITri.seq ?_
 refine ITri.reg pok ?_; simp -implicitDefEqProofs (disch:=first|decide|exact of_eq_true (eq_true rfl)|omega|assumption) only [z64,Int.toNat_natCast,hb,low_get hb,notNil,true_and,apd_get,apd_get0,apd_set0,apd_set,List.length_append,List.append_assoc,Nat.add_assoc,hwb, ↓vcD,vcE,↓vcG,vcF,evs,evP,evB,intsOf,fillC,Value.cells,pt,Value.oneCell',reduceIte,reduceCtorEq,Nat.reduceEqDiff,Nat.reduceAdd,Nat.reduceMul,Nat.reduceLT,Nat.reduceBEq,Nat.reduceLeDiff,Nat.reduceSub]
 refine ITri.seq ?_
 refine ITri.reg pok ?_; simp -implicitDefEqProofs (disch:=first|decide|exact of_eq_true (eq_true rfl)|omega|assumption) only [↓vcD,vcE,↓vcG,vcF,evs,evP,evB,intsOf,fillC,Value.cells,pt,Value.oneCell',reduceIte,reduceCtorEq,Nat.reduceEqDiff,Nat.reduceAdd,Nat.reduceMul,Nat.reduceLT,Nat.reduceBEq,Nat.reduceLeDiff,Nat.reduceSub]
 refine ITri.ret ?_; refine EndX.mk (by simp) (resF_tmp rfl resF_nil) rfl ?_
 rw [snoc_setl hbL]
 rfl
theorem write_e {m k2 o2 c2 : Nat} {xs : List Int} {b2 : Blk} (hb : L[kb]? = some bufE) (hs : L[k2]? = some (some (AObj.cells b2))) (hx : takeC b2.cells o2 m = some (rows eB xs)) (hxl : xs.length = m) (h2b : k2 ≠ kb) (hwb : wl ≤ kb) (h : 0 < m) (h2 : m ≤ 64) :
    Fc Tryd.prog 105 [pt kb,.slice (some ⟨k2,o2,none⟩) m c2] (Hp wl L) (.tuple #[.int .i64 m,.nilIface]) (Hp wl (wrE L kb xs)):=by
 have hbL:=get_lt hb
 have hrep:rows eB (List.replicate 64 0) = rows eB []++rows eB (List.replicate 64 0):=rfl
 have hw:writeAt (rows eB (List.replicate 64 0)) 0 (rows eB xs) = rows eB xs++(rows eB (List.replicate 64 0)).drop m:=by
  have:=writeAt_in (bs:=[]) (xs:=xs) (ys:=rows eB (List.replicate 64 0)) (n:=0) (m:=m) rfl hxl
  exact this
 refine Fc.introX fn105 (by simp) (fun _=>grow_hq (by simp [wrE]) (by unfold wrE; rw [List.take_append_of_le_length (by simp; omega),set_tk hwb])) ?_; simp only [argF]
 refine ITri.seq ?_
 refine ITri.reg pok ?_; simp -implicitDefEqProofs (disch:=first|decide|exact of_eq_true (eq_true rfl)|omega|assumption) only [↓vcD,vcE,↓vcG,vcF,evs,evP,evB,intsOf,fillC,Value.cells,pt,Value.oneCell',reduceIte,reduceCtorEq,Nat.reduceEqDiff,Nat.reduceAdd,Nat.reduceMul,Nat.reduceLT,Nat.reduceBEq,Nat.reduceLeDiff,Nat.reduceSub]
 refine ITri.seq ?_
 refine ITri.reg pok ?_; simp -implicitDefEqProofs (disch:=first|decide|exact of_eq_true (eq_true rfl)|omega|assumption) only [hb,notNil,true_and,hwb,set_id hb, ↓vcD,vcE,↓vcG,vcF,evs,evP,evB,intsOf,fillC,Value.cells,pt,Value.oneCell',reduceIte,reduceCtorEq,Nat.reduceEqDiff,Nat.reduceAdd,Nat.reduceMul,Nat.reduceLT,Nat.reduceBEq,Nat.reduceLeDiff,Nat.reduceSub]
 refine ITri.seq ?_
 refine ITri.reg pok ?_; simp -implicitDefEqProofs (disch:=first|decide|exact of_eq_true (eq_true rfl)|omega|assumption) only [↓vcD,vcE,↓vcG,vcF,evs,evP,evB,intsOf,fillC,Value.cells,pt,Value.oneCell',reduceIte,reduceCtorEq,Nat.reduceEqDiff,Nat.reduceAdd,Nat.reduceMul,Nat.reduceLT,Nat.reduceBEq,Nat.reduceLeDiff,Nat.reduceSub]
 refine ⟨_,_,try_e hb h,?_⟩
 try simp -implicitDefEqProofs (disch:=first|decide|exact of_eq_true (eq_true rfl)|omega|assumption) only [↓vcD,vcE,↓vcG,vcF,evs,evP,evB,intsOf,fillC,Value.cells,pt,Value.oneCell',reduceIte,reduceCtorEq,Nat.reduceEqDiff,Nat.reduceAdd,Nat.reduceMul,Nat.reduceLT,Nat.reduceBEq,Nat.reduceLeDiff,Nat.reduceSub]
 refine ITri.seq ?_
 refine ITri.seq ?_
 refine ITri.reg pok ?_; simp -implicitDefEqProofs (disch:=first|decide|exact of_eq_true (eq_true rfl)|omega|assumption) only [Bool.not_false, ↓vcD,vcE,↓vcG,vcF,evs,evP,evB,intsOf,fillC,Value.cells,pt,Value.oneCell',reduceIte,reduceCtorEq,Nat.reduceEqDiff,Nat.reduceAdd,Nat.reduceMul,Nat.reduceLT,Nat.reduceBEq,Nat.reduceLeDiff,Nat.reduceSub]
 refine ITri.cond (v:=true) rfl (fun _=>?_) (fun h=>by cases h)
 refine ITri.reg pok ?_; simp -implicitDefEqProofs (disch:=first|decide|exact of_eq_true (eq_true rfl)|omega|assumption) only [↓vcD,vcE,↓vcG,vcF,evs,evP,evB,intsOf,fillC,Value.cells,pt,Value.oneCell',reduceIte,reduceCtorEq,Nat.reduceEqDiff,Nat.reduceAdd,Nat.reduceMul,Nat.reduceLT,Nat.reduceBEq,Nat.reduceLeDiff,Nat.reduceSub]
 refine ⟨_,_,grow_e hb hwb h h2,?_⟩
 try simp -implicitDefEqProofs (disch:=first|decide|exact of_eq_true (eq_true rfl)|omega|assumption) only [↓vcD,vcE,↓vcG,vcF,evs,evP,evB,intsOf,fillC,Value.cells,pt,Value.oneCell',reduceIte,reduceCtorEq,Nat.reduceEqDiff,Nat.reduceAdd,Nat.reduceMul,Nat.reduceLT,Nat.reduceBEq,Nat.reduceLeDiff,Nat.reduceSub]
 have hb2:(L.set kb (bufO (.slice (some ⟨L.length,0,none⟩) m 64))++[arB (List.replicate 64 0)])[kb]? = some (bufO (.slice (some ⟨L.length,0,none⟩) m 64)):=low_get (set_get hb)
 have hk2:(L.set kb (bufO (.slice (some ⟨L.length,0,none⟩) m 64))++[arB (List.replicate 64 0)])[L.length]? = some (arB (List.replicate 64 0)):=by
  rw [List.getElem?_append_right (by simp),List.length_set,Nat.sub_self]
  rfl
 have hs2:(L.set kb (bufO (.slice (some ⟨L.length,0,none⟩) m 64))++[arB (List.replicate 64 0)])[k2]? = some (some (AObj.cells b2)):=by
  refine low_get ?_
  rw [List.getElem?_set_ne (fun e=>h2b e.symm),hs]
 refine ITri.seq ?_
 refine ITri.reg pok ?_; simp -implicitDefEqProofs (disch:=first|decide|exact of_eq_true (eq_true rfl)|omega|assumption) only [hb2,notNil,true_and, ↓vcD,vcE,↓vcG,vcF,evs,evP,evB,intsOf,fillC,Value.cells,pt,Value.oneCell',reduceIte,reduceCtorEq,Nat.reduceEqDiff,Nat.reduceAdd,Nat.reduceMul,Nat.reduceLT,Nat.reduceBEq,Nat.reduceLeDiff,Nat.reduceSub]
 refine gen_from0 u_slB i_u8 rfl rfl rfl h2 (by unfold openB; omega) ?_
 try simp -implicitDefEqProofs (disch:=first|decide|exact of_eq_true (eq_true rfl)|omega|assumption) only [↓vcD,vcE,↓vcG,vcF,evs,evP,evB,intsOf,fillC,Value.cells,pt,Value.oneCell',reduceIte,reduceCtorEq,Nat.reduceEqDiff,Nat.reduceAdd,Nat.reduceMul,Nat.reduceLT,Nat.reduceBEq,Nat.reduceLeDiff,Nat.reduceSub]
 refine bi_copyM u_slB i_u8 sz_u8 rfl (Nat.min_self m) (by omega) (get_hq rfl (by rw [hk2]; rfl)) (get_hq rfl (by rw [hs2]; rfl)) hx (by show 0 + m≤(rows eB (List.replicate 64 0)).length; rw [rows_len,List.length_replicate]; omega) (by show wl≤L.length; omega) (rows_one' (f:=eB) _) (by show (1:Nat)≠0; decide) ?_
 rw [Hq_put L.length _ (by simp)]
 simp -implicitDefEqProofs (disch:=first|decide|exact of_eq_true (eq_true rfl)|omega|assumption) only [hw, ↓vcD,vcE,↓vcG,vcF,evs,evP,evB,intsOf,fillC,Value.cells,pt,Value.oneCell',reduceIte,reduceCtorEq,Nat.reduceEqDiff,Nat.reduceAdd,Nat.reduceMul,Nat.reduceLT,Nat.reduceBEq,Nat.reduceLeDiff,Nat.reduceSub]
 have e1:(L.set kb (bufO (.slice (some ⟨L.length,0,none⟩) m 64))++[arB (List.replicate 64 0)]).set L.length (some (AObj.cells ⟨rows eB xs++(rows eB (List.replicate 64 0)).drop m,1,false⟩)) = L.set kb (bufO (.slice (some ⟨L.length,0,none⟩) m 64))++[some (AObj.cells ⟨rows eB xs++(rows eB (List.replicate 64 0)).drop m,1,false⟩)]:=by
  rw [List.set_append_right _ _ (by simp),List.length_set,Nat.sub_self]
  rfl
 rw [e1]
 have hb3:(L.set kb (bufO (.slice (some ⟨L.length,0,none⟩) m 64))++[some (AObj.cells ⟨rows eB xs++(rows eB (List.replicate 64 0)).drop m,1,false⟩)])[kb]? = some (bufO (.slice (some ⟨L.length,0,none⟩) m 64)):=low_get (set_get hb)
 have hk3:(L.set kb (bufO (.slice (some ⟨L.length,0,none⟩) m 64))++[some (AObj.cells ⟨rows eB xs++(rows eB (List.replicate 64 0)).drop m,1,false⟩)])[L.length]? = some (some (AObj.cells ⟨rows eB xs++(rows eB (List.replicate 64 0)).drop m,1,false⟩)):=by
  rw [List.getElem?_append_right (by simp),List.length_set,Nat.sub_self]
  rfl
 refine ITri.reopen (k := L.length) (kb := kb) (o := 0) (n := m) (C := 64) (by rw [hk3]; rfl) (noL_drop (rows_no (f := eB) _)) (by rw [rows_len, hxl, List.length_drop, rows_len, List.length_replicate]; omega) (by omega) h2 (by
     intro e
     have:=congrArg List.length e
     rw [List.length_append,rows_len,hxl] at this
     simp at this
     omega) (by rw [hb3]; rfl) rfl (by omega) (by omega) hwb ?_
 refine ITri.ret ?_; refine EndX.mk (by simp) (resF_tmp rfl (resF_tmp rfl resF_nil)) rfl ?_
 unfold opAt wrE
 rw [List.set_append_right _ _ (by simp),List.length_set,Nat.sub_self,snoc_setl (by simp; omega),List.set_set,List.length_append,List.length_set,hxl,List.append_assoc]
 rfl
end
def ir104_r0:IC:=.reg [⟨some 4,none,false,.mv (.k .nilIface)⟩] (some [0,1])
def ir104_r1:IC:=.reg [⟨some 7,none,false,.mv (.t 0)⟩,
 ⟨some 8,none,false,.nilck (.t 7)⟩,
 ⟨some 9,none,false,.fad 2 (.t 8)⟩,
 ⟨none,none,false,.st 1 (.t 9) (.k (.int .i8 0))⟩] (some [0,1])
def ir104_r2:IC:=.reg [⟨some 11,none,false,.mv (.t 0)⟩,
 ⟨some 12,none,false,.call (.f 109) [(.t 11),(.k (.int .i64 1))]⟩,
 ⟨some 10,none,false,.mv (.t 12)⟩,
 ⟨some 13,none,false,.ext (.t 10) 0⟩,
 ⟨some 14,none,false,.ext (.t 10) 1⟩,
 ⟨some 5,none,false,.mv (.t 13)⟩,
 ⟨some 6,none,false,.mv (.t 14)⟩] (some [0,1,5,6])
def ir104_r3:IC:=.reg [⟨some 15,none,false,.mv (.t 6)⟩,
 ⟨some 16,none,false,.not (.t 15)⟩] (some [0,1,5,16])
def ir104_r4:IC:=.reg [⟨some 17,none,false,.mv (.t 0)⟩,
 ⟨some 18,none,false,.call (.f 110) [(.t 17),(.k (.int .i64 1))]⟩,
 ⟨some 5,none,false,.mv (.t 18)⟩] (some [0,1,5])
def ir104_1:IC:=.cond (.t 16) ir104_r4 .skip
def ir104_2:IC:=.seq ir104_r3 ir104_1
def ir104_r5:IC:=.reg [⟨some 19,none,false,.mv (.t 0)⟩,
 ⟨some 20,none,false,.nilck (.t 19)⟩,
 ⟨some 21,none,false,.fad 0 (.t 20)⟩,
 ⟨some 22,none,false,.ldc (.t 21)⟩,
 ⟨some 23,none,false,.mv (.t 5)⟩,
 ⟨some 24,none,false,.mv (.t 1)⟩,
 ⟨some 25,none,false,.iad 1 (.t 22) (.t 23)⟩,
 ⟨none,none,false,.st 1 (.t 25) (.t 24)⟩] (some [])
def ir104_r6:IC:=.reg [⟨some 4,none,false,.mv (.k .nilIface)⟩] (some [4])
def ir104_3:IC:=.seq ir104_r6 .ret
def ir104_4:IC:=.seq ir104_r5 ir104_3
def ir104_5:IC:=.seq ir104_2 ir104_4
def ir104_6:IC:=.seq ir104_r2 ir104_5
def ir104_7:IC:=.seq ir104_r1 ir104_6
def ir104_8:IC:=.seq ir104_r0 ir104_7
def ir104:IC:=ir104_8
theorem fn104:FnIs Tryd.prog 104 ir104 26 [.tmp 4]:=⟨Tryd.f104,Tryd.f104.body.getD .skip,Tryd.func104,by kernel_rfl,by kernel_rfl,by kernel_rfl,by kernel_rfl⟩
section
variable {wl kb:Nat} {L:List (Option AObj)}
theorem wbyte_end {b n k C : Nat} {bs : List Int} {v : Int} {ys : List Value} {T : List (Option AObj)} (hb : L[kb]? = some (bufO (.slice (some ⟨k, 0, none⟩) (n + 1) C))) (hk : L[k]? = some (some (AObj.cells ⟨rows eB bs ++ ys, 1, false⟩))) (hbl : bs.length = n) (hyl : n + ys.length = C) (hmC : n + 1 ≤ C) (hno : noAddrL ys = true)
    (hne:kb≠k) (hwk:wl≤k) (hwb:wl≤kb) (hC:C < 9223372036854775808) (hT:((L.set k none).set kb (bufO (.slice (some ⟨L.length,0,none⟩) (n + 1) openB)))++[opR (bs++[v])] = T) :
    ITri Tryd.prog 26 none b ir104_4 [(0,pt kb),(1,.int .u8 v),(5,.int .i64 n)] [] (Hp wl L) (EndX Tryd.prog [.tmp 4] .nilIface (Hp wl T)):=by
 have hrl:(rows eB bs).length = n:=by rw [rows_len,hbl,Nat.mul_one]
 have hkl:=get_lt hk
 have hw:writeAt (rows eB bs++ys) n [.int .u8 v] = rows eB (bs++[v])++ys.drop 1:=writeAt_in (xs:=[v]) hbl rfl
 have hlt:(n:Int) < ((n + 1:Nat):Int):=by omega
 have hlen:(rows eB bs++ys).length = C:=by rw [List.length_append,hrl]; exact hyl
 refine ITri.seq ?_
 refine ITri.reg pok ?_; simp -implicitDefEqProofs (disch:=first|decide|exact of_eq_true (eq_true rfl)|omega|assumption) only [hb,hk,notNil,true_and,hwk,hw,hlen,hmC,Int.toNat_natCast,hlt, ↓vcD,vcE,↓vcG,vcF,evs,evP,evB,intsOf,fillC,Value.cells,pt,Value.oneCell',reduceIte,reduceCtorEq,Nat.reduceEqDiff,Nat.reduceAdd,Nat.reduceMul,Nat.reduceLT,Nat.reduceBEq,Nat.reduceLeDiff,Nat.reduceSub]
 have hk3:(L.set k (some (AObj.cells ⟨rows eB (bs++[v])++ys.drop 1,1,false⟩)))[k]? = some (some (AObj.cells ⟨rows eB (bs++[v])++ys.drop 1,1,false⟩)):=set_get hk
 have hb3:(L.set k (some (AObj.cells ⟨rows eB (bs++[v])++ys.drop 1,1,false⟩)))[kb]? = some (bufO (.slice (some ⟨k,0,none⟩) (n + 1) C)):=by rw [List.getElem?_set_ne (fun e=>hne e.symm)]; exact hb
 refine ITri.reopen (k := k) (kb := kb) (o := 0) (n := n + 1) (C := C) (by rw [hk3]; rfl) (noL_drop hno) (by rw [rows_len, List.length_append, List.length_drop, hbl]; simp; omega) hC hmC (by
     intro e
     have:=congrArg List.length e
     rw [List.length_append,rows_len,List.length_append,hbl] at this
     simp at this) (by rw [hb3]; rfl) rfl hne hwk hwb ?_
 refine ITri.seq ?_
 refine ITri.reg pok ?_; simp -implicitDefEqProofs (disch:=first|decide|exact of_eq_true (eq_true rfl)|omega|assumption) only [↓vcD,vcE,↓vcG,vcF,evs,evP,evB,intsOf,fillC,Value.cells,pt,Value.oneCell',reduceIte,reduceCtorEq,Nat.reduceEqDiff,Nat.reduceAdd,Nat.reduceMul,Nat.reduceLT,Nat.reduceBEq,Nat.reduceLeDiff,Nat.reduceSub]
 refine ITri.ret ?_; refine EndX.mk (by simp) (resF_tmp rfl resF_nil) rfl ?_
 rw [← hT]
 unfold opAt
 rw [List.set_set,List.length_set]
 rfl
theorem wbyte_w {n k : Nat} {bs : List Int} {v : Int} (hb : L[kb]? = some (bufO (.slice (some ⟨k, 0, none⟩) n openB))) (hk : L[k]? = some (opR bs)) (hbl : bs.length = n) (hn1 : 1 ≤ n) (hne : kb ≠ k) (hwk : wl ≤ k) (hwb : wl ≤ kb) (hsm : n + 1 ≤ 1000000000) :
    Fc Tryd.prog 104 [pt kb,.int .u8 v] (Hp wl L) .nilIface (Hp wl (wrT L kb k (bs++[v]))):=by
 have hbL:=get_lt hb
 have hkL:=get_lt hk
 have hrl:(rows eB bs).length = n:=by rw [rows_len,hbl,Nat.mul_one]
 have hcl:(bs++[v]).length = n + 1:=by rw [List.length_append,hbl]; rfl
 refine Fc.introX fn104 (by simp) (fun _=>grow_hq (by simp [wrT]) (by unfold wrT; rw [List.take_append_of_le_length (by simp; omega),set_tk hwb,set_tk hwk])) ?_; simp only [argF]
 refine ITri.seq ?_
 refine ITri.reg pok ?_; simp -implicitDefEqProofs (disch:=first|decide|exact of_eq_true (eq_true rfl)|omega|assumption) only [↓vcD,vcE,↓vcG,vcF,evs,evP,evB,intsOf,fillC,Value.cells,pt,Value.oneCell',reduceIte,reduceCtorEq,Nat.reduceEqDiff,Nat.reduceAdd,Nat.reduceMul,Nat.reduceLT,Nat.reduceBEq,Nat.reduceLeDiff,Nat.reduceSub]
 refine ITri.seq ?_
 refine ITri.reg pok ?_; simp -implicitDefEqProofs (disch:=first|decide|exact of_eq_true (eq_true rfl)|omega|assumption) only [hb,notNil,true_and,hwb,set_id hb, ↓vcD,vcE,↓vcG,vcF,evs,evP,evB,intsOf,fillC,Value.cells,pt,Value.oneCell',reduceIte,reduceCtorEq,Nat.reduceEqDiff,Nat.reduceAdd,Nat.reduceMul,Nat.reduceLT,Nat.reduceBEq,Nat.reduceLeDiff,Nat.reduceSub]
 refine ITri.closeAt (k:=k) (kb:=kb) (o:=0) (n:=n) (by rw [hk]; rfl) (by rw [hb]; rfl) rfl hne hwk hwb fun C zs hC hno hlen hnC=>?_
 rw [hrl] at hlen
 have hbC:(clAt k kb 0 n C (rows eB bs) zs ⟨[.slice (some ⟨k,0,none⟩) n openB,.int .i64 0,.int .i8 0],1,false⟩ L)[kb]? = some (bufO (.slice (some ⟨k,0,none⟩) n C)):=by
  unfold clAt
  rw [List.getElem?_set_self (by simpa using hbL)]
  rfl
 have hkC:(clAt k kb 0 n C (rows eB bs) zs ⟨[.slice (some ⟨k,0,none⟩) n openB,.int .i64 0,.int .i8 0],1,false⟩ L)[k]? = some (some (AObj.cells ⟨rows eB bs++zs,1,false⟩)):=by
  unfold clAt
  rw [List.getElem?_set_ne hne,List.getElem?_set_self hkL]
 have hlC:(clAt k kb 0 n C (rows eB bs) zs ⟨[.slice (some ⟨k,0,none⟩) n openB,.int .i64 0,.int .i8 0],1,false⟩ L).length = L.length:=clAt_len
 have hfin : ∀ Y,((clAt k kb 0 n C (rows eB bs) zs ⟨[.slice (some ⟨k,0,none⟩) n openB,.int .i64 0,.int .i8 0],1,false⟩ L).set k none).set kb Y = (L.set k none).set kb Y:=by
  intro Y
  unfold clAt
  rw [List.set_comm _ _ hne,List.set_set,List.set_set]
 generalize clAt k kb 0 n C (rows eB bs) zs ⟨[.slice (some ⟨k,0,none⟩) n openB,.int .i64 0,.int .i8 0],1,false⟩ L = L1 at *
 by_cases hroom:n + 1≤C
 ·refine ITri.seq ?_
  refine ITri.reg pok ?_; simp -implicitDefEqProofs (disch:=first|decide|exact of_eq_true (eq_true rfl)|omega|assumption) only [↓vcD,vcE,↓vcG,vcF,evs,evP,evB,intsOf,fillC,Value.cells,pt,Value.oneCell',reduceIte,reduceCtorEq,Nat.reduceEqDiff,Nat.reduceAdd,Nat.reduceMul,Nat.reduceLT,Nat.reduceBEq,Nat.reduceLeDiff,Nat.reduceSub]
  refine ⟨_,_,try_yes (m:=1) hbC hwb hroom hC,?_⟩
  try simp -implicitDefEqProofs (disch:=first|decide|exact of_eq_true (eq_true rfl)|omega|assumption) only [↓vcD,vcE,↓vcG,vcF,evs,evP,evB,intsOf,fillC,Value.cells,pt,Value.oneCell',reduceIte,reduceCtorEq,Nat.reduceEqDiff,Nat.reduceAdd,Nat.reduceMul,Nat.reduceLT,Nat.reduceBEq,Nat.reduceLeDiff,Nat.reduceSub]
  refine ITri.seq ?_
  refine ITri.seq ?_
  refine ITri.reg pok ?_; simp -implicitDefEqProofs (disch:=first|decide|exact of_eq_true (eq_true rfl)|omega|assumption) only [Bool.not_true, ↓vcD,vcE,↓vcG,vcF,evs,evP,evB,intsOf,fillC,Value.cells,pt,Value.oneCell',reduceIte,reduceCtorEq,Nat.reduceEqDiff,Nat.reduceAdd,Nat.reduceMul,Nat.reduceLT,Nat.reduceBEq,Nat.reduceLeDiff,Nat.reduceSub]
  refine ITri.cond (v:=false) rfl (fun h=>by cases h) (fun _=>?_); refine ITri.skip ?_; simp only [SeqQ_normal,BlkQ_normal]
  refine ITri.weak (l':=[(0,pt kb),(1,.int .u8 v),(5,.int .i64 n)]) (ms':=[]) (h':=Hp wl (L1.set kb (bufO (.slice (some ⟨k,0,none⟩) (n + 1) C)))) (Wk.sub ⟨rfl,rfl,rfl,trivial⟩) ?_
  refine ITri.pad (ITri.pad ?_)
  have e0 : ∀ (A:List (Option AObj)),A++[none]++[none] = A++[none,none]:=fun A=>by rw [List.append_assoc]; rfl
  rw [e0]
  refine wbyte_end (k:=k) (bs:=bs) (n:=n) (C:=C) (ys:=zs) (low_get (T:=[none,none]) (set_get hbC)) (by refine low_get (T:=[none,none]) ?_; rw [List.getElem?_set_ne hne]; exact hkC) hbl hlen hroom hno hne hwk hwb hC ?_
  unfold wrT
  rw [snoc_setl (by simp; omega),snoc_setl (by simp; omega),List.set_comm _ _ hne,List.set_set,hfin,hcl,List.append_assoc,List.length_append,List.length_set,hlC]
  rfl
 ·refine ITri.seq ?_
  refine ITri.reg pok ?_; simp -implicitDefEqProofs (disch:=first|decide|exact of_eq_true (eq_true rfl)|omega|assumption) only [↓vcD,vcE,↓vcG,vcF,evs,evP,evB,intsOf,fillC,Value.cells,pt,Value.oneCell',reduceIte,reduceCtorEq,Nat.reduceEqDiff,Nat.reduceAdd,Nat.reduceMul,Nat.reduceLT,Nat.reduceBEq,Nat.reduceLeDiff,Nat.reduceSub]
  refine ⟨_,_,try_no (m:=1) hbC (by omega) hC hnC,?_⟩
  try simp -implicitDefEqProofs (disch:=first|decide|exact of_eq_true (eq_true rfl)|omega|assumption) only [↓vcD,vcE,↓vcG,vcF,evs,evP,evB,intsOf,fillC,Value.cells,pt,Value.oneCell',reduceIte,reduceCtorEq,Nat.reduceEqDiff,Nat.reduceAdd,Nat.reduceMul,Nat.reduceLT,Nat.reduceBEq,Nat.reduceLeDiff,Nat.reduceSub]
  refine ITri.seq ?_
  refine ITri.seq ?_
  refine ITri.reg pok ?_; simp -implicitDefEqProofs (disch:=first|decide|exact of_eq_true (eq_true rfl)|omega|assumption) only [Bool.not_false, ↓vcD,vcE,↓vcG,vcF,evs,evP,evB,intsOf,fillC,Value.cells,pt,Value.oneCell',reduceIte,reduceCtorEq,Nat.reduceEqDiff,Nat.reduceAdd,Nat.reduceMul,Nat.reduceLT,Nat.reduceBEq,Nat.reduceLeDiff,Nat.reduceSub]
  refine ITri.cond (v:=true) rfl (fun _=>?_) (fun h=>by cases h)
  refine ITri.reg pok ?_; simp -implicitDefEqProofs (disch:=first|decide|exact of_eq_true (eq_true rfl)|omega|assumption) only [↓vcD,vcE,↓vcG,vcF,evs,evP,evB,intsOf,fillC,Value.cells,pt,Value.oneCell',reduceIte,reduceCtorEq,Nat.reduceEqDiff,Nat.reduceAdd,Nat.reduceMul,Nat.reduceLT,Nat.reduceBEq,Nat.reduceLeDiff,Nat.reduceSub]
  refine ⟨_,_,grow_w (m:=1) hbC hkC hbl hlen hno hwb hn1 (by omega) hsm,?_⟩
  try simp -implicitDefEqProofs (disch:=first|decide|exact of_eq_true (eq_true rfl)|omega|assumption) only [↓vcD,vcE,↓vcG,vcF,evs,evP,evB,intsOf,fillC,Value.cells,pt,Value.oneCell',reduceIte,reduceCtorEq,Nat.reduceEqDiff,Nat.reduceAdd,Nat.reduceMul,Nat.reduceLT,Nat.reduceBEq,Nat.reduceLeDiff,Nat.reduceSub]
  have hb2:(L1.set kb (bufO (.slice (some ⟨L1.length + 1,0,none⟩) (n + 1) openB)))[kb]? = some (bufO (.slice (some ⟨L1.length + 1,0,none⟩) (n + 1) openB)):=set_get hbC
  have hA:L1.length + 1 = (L1.set kb (bufO (.slice (some ⟨L1.length + 1,0,none⟩) (n + 1) openB))).length + 1:=by rw [List.length_set]
  refine ITri.closeAt (k:=L1.length + 1) (kb:=kb) (o:=0) (n:=n + 1) (by rw [snd_get hA]; rfl) (by rw [low_get hb2]; rfl) rfl (by omega) (by omega) hwb fun C3 zs3 hC3 hno3 hlen3 hnC3=>?_
  have hrl3:(rows eB (bs++List.replicate 1 0)).length = n + 1:=by rw [rows_len,List.length_append,List.length_replicate,hbl,Nat.mul_one]
  rw [hrl3] at hlen3
  have hl2:clAt (L1.length + 1) kb 0 (n + 1) C3 (rows eB (bs++List.replicate 1 0)) zs3 ⟨[.slice (some ⟨L1.length + 1,0,none⟩) (n + 1) openB,.int .i64 0,.int .i8 0],1,false⟩ (L1.set kb (bufO (.slice (some ⟨L1.length + 1,0,none⟩) (n + 1) openB))++[none,some (AObj.cells ⟨rows eB (bs++List.replicate 1 0),1,true⟩)]) = L1.set kb (bufO (.slice (some ⟨L1.length + 1,0,none⟩) (n + 1) C3))++[none,some (AObj.cells ⟨rows eB bs++(rows eB (List.replicate 1 0)++zs3),1,false⟩)]:=by
   unfold clAt
   rw [snd_set hA,snoc_setl (by simp; omega),List.set_set,rows_append,List.append_assoc]
   rfl
  rw [hl2]
  refine ITri.kill (k:=k) hwk ?_
  rw [snoc_setl (by simp; omega)]
  have hA2:L1.length + 1 = ((L1.set kb (bufO (.slice (some ⟨L1.length + 1,0,none⟩) (n + 1) C3))).set k none).length + 1:=by rw [List.length_set,List.length_set]
  refine wbyte_end (k:=L1.length + 1) (bs:=bs) (n:=n) (C:=C3) (ys:=rows eB (List.replicate 1 0)++zs3) (by refine low_get ?_; rw [List.getElem?_set_ne (fun e=>hne e.symm)]; exact set_get hbC) (snd_get hA2) hbl (by rw [List.length_append,rows_len,List.length_replicate]; omega) hnC3 (noL_app (rows_no (f:=eB) _) hno3) (by omega) (by omega) hwb hC3 ?_
  unfold wrT
  rw [snd_set hA2,snoc_setl (by simp; omega),List.set_comm _ _ (show k≠kb from fun e=>hne e.symm),List.set_set,List.set_comm _ _ hne,hfin,hcl,List.append_assoc,List.length_append,List.length_set,List.length_set,hlC]
  rfl
theorem wbyte_e {v:Int} (hb:L[kb]? = some bufE) (hwb:wl≤kb):Fc Tryd.prog 104 [pt kb,.int .u8 v] (Hp wl L) .nilIface (Hp wl (wrE L kb [v])):=by
 have hbL:=get_lt hb
 refine Fc.introX fn104 (by simp) (fun _=>grow_hq (by simp [wrE]) (by unfold wrE; rw [List.take_append_of_le_length (by simp; omega),set_tk hwb])) ?_; simp only [argF]
 refine ITri.seq ?_
 refine ITri.reg pok ?_; simp -implicitDefEqProofs (disch:=first|decide|exact of_eq_true (eq_true rfl)|omega|assumption) only [↓vcD,vcE,↓vcG,vcF,evs,evP,evB,intsOf,fillC,Value.cells,pt,Value.oneCell',reduceIte,reduceCtorEq,Nat.reduceEqDiff,Nat.reduceAdd,Nat.reduceMul,Nat.reduceLT,Nat.reduceBEq,Nat.reduceLeDiff,Nat.reduceSub]
 refine ITri.seq ?_
 refine ITri.reg pok ?_; simp -implicitDefEqProofs (disch:=first|decide|exact of_eq_true (eq_true rfl)|omega|assumption) only [hb,notNil,true_and,hwb,set_id hb, ↓vcD,vcE,↓vcG,vcF,evs,evP,evB,intsOf,fillC,Value.cells,pt,Value.oneCell',reduceIte,reduceCtorEq,Nat.reduceEqDiff,Nat.reduceAdd,Nat.reduceMul,Nat.reduceLT,Nat.reduceBEq,Nat.reduceLeDiff,Nat.reduceSub]
 refine ITri.seq ?_
 refine ITri.reg pok ?_; simp -implicitDefEqProofs (disch:=first|decide|exact of_eq_true (eq_true rfl)|omega|assumption) only [↓vcD,vcE,↓vcG,vcF,evs,evP,evB,intsOf,fillC,Value.cells,pt,Value.oneCell',reduceIte,reduceCtorEq,Nat.reduceEqDiff,Nat.reduceAdd,Nat.reduceMul,Nat.reduceLT,Nat.reduceBEq,Nat.reduceLeDiff,Nat.reduceSub]
 refine ⟨_,_,try_e (m:=1) hb (by decide),?_⟩
 try simp -implicitDefEqProofs (disch:=first|decide|exact of_eq_true (eq_true rfl)|omega|assumption) only [↓vcD,vcE,↓vcG,vcF,evs,evP,evB,intsOf,fillC,Value.cells,pt,Value.oneCell',reduceIte,reduceCtorEq,Nat.reduceEqDiff,Nat.reduceAdd,Nat.reduceMul,Nat.reduceLT,Nat.reduceBEq,Nat.reduceLeDiff,Nat.reduceSub]
 refine ITri.seq ?_
 refine ITri.seq ?_
 refine ITri.reg pok ?_; simp -implicitDefEqProofs (disch:=first|decide|exact of_eq_true (eq_true rfl)|omega|assumption) only [Bool.not_false, ↓vcD,vcE,↓vcG,vcF,evs,evP,evB,intsOf,fillC,Value.cells,pt,Value.oneCell',reduceIte,reduceCtorEq,Nat.reduceEqDiff,Nat.reduceAdd,Nat.reduceMul,Nat.reduceLT,Nat.reduceBEq,Nat.reduceLeDiff,Nat.reduceSub]
 refine ITri.cond (v:=true) rfl (fun _=>?_) (fun h=>by cases h)
 refine ITri.reg pok ?_; simp -implicitDefEqProofs (disch:=first|decide|exact of_eq_true (eq_true rfl)|omega|assumption) only [↓vcD,vcE,↓vcG,vcF,evs,evP,evB,intsOf,fillC,Value.cells,pt,Value.oneCell',reduceIte,reduceCtorEq,Nat.reduceEqDiff,Nat.reduceAdd,Nat.reduceMul,Nat.reduceLT,Nat.reduceBEq,Nat.reduceLeDiff,Nat.reduceSub]
 refine ⟨_,_,grow_e (m:=1) hb hwb (by decide) (by decide),?_⟩
 try simp -implicitDefEqProofs (disch:=first|decide|exact of_eq_true (eq_true rfl)|omega|assumption) only [↓vcD,vcE,↓vcG,vcF,evs,evP,evB,intsOf,fillC,Value.cells,pt,Value.oneCell',reduceIte,reduceCtorEq,Nat.reduceEqDiff,Nat.reduceAdd,Nat.reduceMul,Nat.reduceLT,Nat.reduceBEq,Nat.reduceLeDiff,Nat.reduceSub]
 refine wbyte_end (k:=L.length) (bs:=[]) (n:=0) (C:=64) (ys:=rows eB (List.replicate 64 0)) (low_get (set_get hb)) (by rw [List.getElem?_append_right (by simp),List.length_set,Nat.sub_self]; rfl) rfl (by rw [rows_len,List.length_replicate]) (by decide) (rows_no (f:=eB) _) (by omega) (by omega) hwb (by decide) ?_
 unfold wrE
 rw [List.set_append_right _ _ (by simp),List.length_set,Nat.sub_self,snoc_setl (by simp; omega),List.set_set,List.length_append,List.length_set,List.append_assoc]
 rfl
theorem bytes_w {n k:Nat} (hb:L[kb]? = some (bufO (.slice (some ⟨k,0,none⟩) n openB))):Fc Tryd.prog 63 [pt kb] (Hp wl L) (.slice (some ⟨k,0,none⟩) n openB) (Hp wl L):=by
 refine Fc.introX fn63 (by simp) (fun _=>Grow.refl _) ?_; simp only [argF]
 refine ITri.seq ?_
 refine ITri.reg pok ?_; simp -implicitDefEqProofs (disch:=first|decide|exact of_eq_true (eq_true rfl)|omega|assumption) only [↓vcD,vcE,↓vcG,vcF,evs,evP,evB,intsOf,fillC,Value.cells,pt,Value.oneCell',reduceIte,reduceCtorEq,Nat.reduceEqDiff,Nat.reduceAdd,Nat.reduceMul,Nat.reduceLT,Nat.reduceBEq,Nat.reduceLeDiff,Nat.reduceSub]
 refine ITri.seq ?_
 refine ITri.draw pok ?_; simp -implicitDefEqProofs (disch:=first|decide|exact of_eq_true (eq_true rfl)|omega|assumption) only [hb,notNil,true_and, ↓vcD,vcE,↓vcG,vcF,evs,evP,evB,intsOf,fillC,Value.cells,pt,Value.oneCell',reduceIte,reduceCtorEq,Nat.reduceEqDiff,Nat.reduceAdd,Nat.reduceMul,Nat.reduceLT,Nat.reduceBEq,Nat.reduceLeDiff,Nat.reduceSub]
 refine gen_fromO (i:=0) u_slB i_u8 sz_u8 rfl rfl rfl (.inr rfl) ?_
 try simp -implicitDefEqProofs (disch:=first|decide|exact of_eq_true (eq_true rfl)|omega|assumption) only [↓vcD,vcE,↓vcG,vcF,evs,evP,evB,intsOf,fillC,Value.cells,pt,Value.oneCell',reduceIte,reduceCtorEq,Nat.reduceEqDiff,Nat.reduceAdd,Nat.reduceMul,Nat.reduceLT,Nat.reduceBEq,Nat.reduceLeDiff,Nat.reduceSub]
 refine ITri.ret ?_; exact EndX.mk (by simp) (resF_tmp rfl resF_nil) rfl rfl
end
end Go.Proofs.YtgjokhodccacoaaDoor
