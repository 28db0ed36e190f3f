import Derived.Test.YtgjokhodccacoaaDoorSRecW2
set_option linter.unusedSimpArgs false
set_option linter.unusedVariables false
namespace Go.Vm
open Go Go.RowKit
theorem set_tk {α:Type} {L:List α} {k wl:Nat} {x:α} (h:wl≤k):(L.set k x).take wl = L.take wl:=by
 apply List.ext_getElem?
 intro j
 rw [List.getElem?_take,List.getElem?_take]
 split
 ·rw [List.getElem?_set_ne (by omega)]
 ·rfl
theorem set_id {α:Type} {L:List α} {k:Nat} {x:α} (h:L[k]? = some x):L.set k x = L:=by
 apply List.ext_getElem?
 intro j
 rw [List.getElem?_set]
 split
 ·rename_i e
  subst e
  rw [if_pos (List.getElem?_eq_some_iff.1 h).1,h]
 ·rfl
theorem snoc_set {α:Type} {L:List α} {r c:α}:(L++[r]).set L.length c = L++[c]:=by
 rw [List.set_append_right _ _ (Nat.le_refl _),Nat.sub_self]
 rfl
theorem snoc_setl {α:Type} {L T:List α} {k:Nat} {c:α} (h:k < L.length):(L++T).set k c = L.set k c++T:=List.set_append_left _ _ h
theorem set_get {α:Type} {L:List α} {k:Nat} {x y:α} (h:L[k]? = some x):(L.set k y)[k]? = some y:=by
 rw [List.getElem?_set_self (List.getElem?_eq_some_iff.1 h).1]
end Go.Vm
namespace Go.Proofs.YtgjokhodccacoaaDoor
open Go.RowKit Go.Vm
set_option maxRecDepth 100000
section
variable {wl kb:Nat} {L:List (Option AObj)}
theorem len_w {n c:Nat} {a:Option Addr} (hb:L[kb]? = some (bufO (.slice a n c))) (hn:n < 9223372036854775808):Fc Tryd.prog 103 [pt kb] (Hp wl L) (.int .i64 n) (Hp wl L):=by
 refine Fc.introX fn103 (by simp) (fun _=>Grow.refl _) ?_; simp only [argF]
 refine ITri.seq ?_
 refine ITri.reg pok ?_; simp -implicitDefEqProofs (disch:=first|decide|exact of_eq_true (eq_true rfl)|omega|assumption) only [↓vcD,vcE,↓vcG,vcF,evs,evP,evB,intsOf,fillC,Value.cells,pt,Value.oneCell',reduceIte,reduceCtorEq,Nat.reduceEqDiff,Nat.reduceAdd,Nat.reduceMul,Nat.reduceLT,Nat.reduceBEq,Nat.reduceLeDiff,Nat.reduceSub]
 refine ITri.seq ?_
 refine ITri.draw pok ?_; simp -implicitDefEqProofs (disch:=first|decide|exact of_eq_true (eq_true rfl)|omega|assumption) only [hb,notNil,true_and,Int.sub_zero, ↓vcD,vcE,↓vcG,vcF,evs,evP,evB,intsOf,fillC,Value.cells,pt,Value.oneCell',reduceIte,reduceCtorEq,Nat.reduceEqDiff,Nat.reduceAdd,Nat.reduceMul,Nat.reduceLT,Nat.reduceBEq,Nat.reduceLeDiff,Nat.reduceSub]
 refine ITri.ret ?_; exact EndX.mk (by simp) (resF_tmp rfl resF_nil) rfl rfl
theorem try_yes {n m k C : Nat} (hb : L[kb]? = some (bufO (.slice (some ⟨k, 0, none⟩) n C))) (hw : wl ≤ kb) (hm : n + m ≤ C) (hC : C < 9223372036854775808) :
    Fc Tryd.prog 109 [pt kb,.int .i64 m] (Hp wl L) (.tuple #[.int .i64 n,.bool true]) (Hp wl (L.set kb (bufO (.slice (some ⟨k,0,none⟩) (n + m) C)))):=by
 have hCo:C < openB:=by unfold openB; omega
 have hbl:=get_lt hb
 have h' : (m:Int)≤(C:Int) - n:=by omega
 refine Fc.introX fn109 (by simp) (fun _=>grow_hq (by simp) (set_tk hw)) ?_; simp only [argF]
 refine ITri.seq ?_
 refine ITri.reg pok ?_; simp -implicitDefEqProofs (disch:=first|decide|exact of_eq_true (eq_true rfl)|omega|assumption) only [↓vcD,vcE,↓vcG,vcF,evs,evP,evB,intsOf,fillC,Value.cells,pt,Value.oneCell',reduceIte,reduceCtorEq,Nat.reduceEqDiff,Nat.reduceAdd,Nat.reduceMul,Nat.reduceLT,Nat.reduceBEq,Nat.reduceLeDiff,Nat.reduceSub]
 refine ITri.seq ?_
 refine ITri.seq ?_
 refine ITri.reg pok ?_; simp -implicitDefEqProofs (disch:=first|decide|exact of_eq_true (eq_true rfl)|omega|assumption) only [hb,notNil,true_and, ↓vcD,vcE,↓vcG,vcF,evs,evP,evB,intsOf,fillC,Value.cells,pt,Value.oneCell',reduceIte,reduceCtorEq,Nat.reduceEqDiff,Nat.reduceAdd,Nat.reduceMul,Nat.reduceLT,Nat.reduceBEq,Nat.reduceLeDiff,Nat.reduceSub]
 refine ITri.seq ?_
 refine ITri.reg pok ?_; simp -implicitDefEqProofs (disch:=first|decide|exact of_eq_true (eq_true rfl)|omega|assumption) only [hb,notNil,true_and, ↓vcD,vcE,↓vcG,vcF,evs,evP,evB,intsOf,fillC,Value.cells,pt,Value.oneCell',reduceIte,reduceCtorEq,Nat.reduceEqDiff,Nat.reduceAdd,Nat.reduceMul,Nat.reduceLT,Nat.reduceBEq,Nat.reduceLeDiff,Nat.reduceSub]
 refine bi_cap u_slB rfl hCo ?_
 simp -implicitDefEqProofs (disch:=first|decide|exact of_eq_true (eq_true rfl)|omega|assumption) only [h',decide_true, ↓vcD,vcE,↓vcG,vcF,evs,evP,evB,intsOf,fillC,Value.cells,pt,Value.oneCell',reduceIte,reduceCtorEq,Nat.reduceEqDiff,Nat.reduceAdd,Nat.reduceMul,Nat.reduceLT,Nat.reduceBEq,Nat.reduceLeDiff,Nat.reduceSub]
 refine ITri.cond (v:=true) rfl (fun _=>?_) (fun h=>by cases h)
 refine ITri.seq ?_
 refine ITri.reg pok ?_; simp -implicitDefEqProofs (disch:=first|decide|exact of_eq_true (eq_true rfl)|omega|assumption) only [hb,notNil,true_and, ↓vcD,vcE,↓vcG,vcF,evs,evP,evB,intsOf,fillC,Value.cells,pt,Value.oneCell',reduceIte,reduceCtorEq,Nat.reduceEqDiff,Nat.reduceAdd,Nat.reduceMul,Nat.reduceLT,Nat.reduceBEq,Nat.reduceLeDiff,Nat.reduceSub]
 refine gen_toC (j:=n + m) u_slB i_u8 rfl rfl (by omega) hm hCo ?_
 simp -implicitDefEqProofs (disch:=first|decide|exact of_eq_true (eq_true rfl)|omega|assumption) only [hb,notNil,true_and,hbl,hw, ↓vcD,vcE,↓vcG,vcF,evs,evP,evB,intsOf,fillC,Value.cells,pt,Value.oneCell',reduceIte,reduceCtorEq,Nat.reduceEqDiff,Nat.reduceAdd,Nat.reduceMul,Nat.reduceLT,Nat.reduceBEq,Nat.reduceLeDiff,Nat.reduceSub]
 refine ITri.seq ?_
 refine ITri.reg pok ?_; simp -implicitDefEqProofs (disch:=first|decide|exact of_eq_true (eq_true rfl)|omega|assumption) only [↓vcD,vcE,↓vcG,vcF,evs,evP,evB,intsOf,fillC,Value.cells,pt,Value.oneCell',reduceIte,reduceCtorEq,Nat.reduceEqDiff,Nat.reduceAdd,Nat.reduceMul,Nat.reduceLT,Nat.reduceBEq,Nat.reduceLeDiff,Nat.reduceSub]
 refine ITri.ret ?_; exact EndX.mk (by simp) (resF_tmp rfl (resF_tmp rfl resF_nil)) rfl rfl
theorem try_no {n m k C : Nat} (hb : L[kb]? = some (bufO (.slice (some ⟨k, 0, none⟩) n C))) (hm : C < n + m) (hC : C < 9223372036854775808) (hnC : n ≤ C) :
    Fc Tryd.prog 109 [pt kb,.int .i64 m] (Hp wl L) (.tuple #[.int .i64 0,.bool false]) (Hp wl L):=by
 have hCo:C < openB:=by unfold openB; omega
 have h' : ¬ (m:Int)≤(C:Int) - n:=by omega
 refine Fc.introX fn109 (by simp) (fun _=>Grow.refl _) ?_; simp only [argF]
 refine ITri.seq ?_
 refine ITri.reg pok ?_; simp -implicitDefEqProofs (disch:=first|decide|exact of_eq_true (eq_true rfl)|omega|assumption) only [↓vcD,vcE,↓vcG,vcF,evs,evP,evB,intsOf,fillC,Value.cells,pt,Value.oneCell',reduceIte,reduceCtorEq,Nat.reduceEqDiff,Nat.reduceAdd,Nat.reduceMul,Nat.reduceLT,Nat.reduceBEq,Nat.reduceLeDiff,Nat.reduceSub]
 refine ITri.seq ?_
 refine ITri.seq ?_
 refine ITri.reg pok ?_; simp -implicitDefEqProofs (disch:=first|decide|exact of_eq_true (eq_true rfl)|omega|assumption) only [hb,notNil,true_and, ↓vcD,vcE,↓vcG,vcF,evs,evP,evB,intsOf,fillC,Value.cells,pt,Value.oneCell',reduceIte,reduceCtorEq,Nat.reduceEqDiff,Nat.reduceAdd,Nat.reduceMul,Nat.reduceLT,Nat.reduceBEq,Nat.reduceLeDiff,Nat.reduceSub]
 refine ITri.seq ?_
 refine ITri.reg pok ?_; simp -implicitDefEqProofs (disch:=first|decide|exact of_eq_true (eq_true rfl)|omega|assumption) only [hb,notNil,true_and, ↓vcD,vcE,↓vcG,vcF,evs,evP,evB,intsOf,fillC,Value.cells,pt,Value.oneCell',reduceIte,reduceCtorEq,Nat.reduceEqDiff,Nat.reduceAdd,Nat.reduceMul,Nat.reduceLT,Nat.reduceBEq,Nat.reduceLeDiff,Nat.reduceSub]
 refine bi_cap u_slB rfl hCo ?_
 simp -implicitDefEqProofs (disch:=first|decide|exact of_eq_true (eq_true rfl)|omega|assumption) only [h',decide_false, ↓vcD,vcE,↓vcG,vcF,evs,evP,evB,intsOf,fillC,Value.cells,pt,Value.oneCell',reduceIte,reduceCtorEq,Nat.reduceEqDiff,Nat.reduceAdd,Nat.reduceMul,Nat.reduceLT,Nat.reduceBEq,Nat.reduceLeDiff,Nat.reduceSub]
 refine ITri.cond (v:=false) rfl (fun h=>by cases h) (fun _=>?_); refine ITri.skip ?_; simp only [SeqQ_normal,BlkQ_normal]
 refine ITri.seq ?_
 refine ITri.reg pok ?_; simp -implicitDefEqProofs (disch:=first|decide|exact of_eq_true (eq_true rfl)|omega|assumption) only [↓vcD,vcE,↓vcG,vcF,evs,evP,evB,intsOf,fillC,Value.cells,pt,Value.oneCell',reduceIte,reduceCtorEq,Nat.reduceEqDiff,Nat.reduceAdd,Nat.reduceMul,Nat.reduceLT,Nat.reduceBEq,Nat.reduceLeDiff,Nat.reduceSub]
 refine ITri.ret ?_; exact EndX.mk (by simp) (resF_tmp rfl (resF_tmp rfl resF_nil)) rfl rfl
theorem grow_w {n m k C : Nat} {bs : List Int} {ys : List Value} (hb : L[kb]? = some (bufO (.slice (some ⟨k, 0, none⟩) n C))) (hk : L[k]? = some (some (AObj.cells ⟨rows eB bs ++ ys, 1, false⟩))) (hbl : bs.length = n) (hyl : n + ys.length = C) (hno : noAddrL ys = true) (hwb : wl ≤ kb) (hn1 : 1 ≤ n) (hm : C < n + m) (hs : n + m ≤ 1000000000) :
    Fc Tryd.prog 110 [pt kb,.int .i64 m] (Hp wl L) (.int .i64 n) (Hp wl ((L.set kb (bufO (.slice (some ⟨L.length + 1,0,none⟩) (n + m) openB)))++[none,some (AObj.cells ⟨rows eB (bs++List.replicate m 0),1,true⟩)])):=by
 have hCo:C < openB:=by unfold openB; omega
 have hbL:=get_lt hb
 have hn0 : ¬ (n:Int) = 0:=by omega
 have hq : ¬ (m:Int)≤(C:Int) / 2 - n:=by omega
 have hq2 : ¬ 9223372036854775807 - (C:Int) - m < C:=by omega
 have hnC:n≤C:=by omega
 refine Fc.introX fn110 (by simp) (fun _=>grow_hq (by simp) (by rw [List.take_append_of_le_length (by simp; omega)]; exact set_tk hwb)) ?_; simp only [argF]
 refine ITri.seq ?_
 refine ITri.reg pok ?_; simp -implicitDefEqProofs (disch:=first|decide|exact of_eq_true (eq_true rfl)|omega|assumption) only [↓vcD,vcE,↓vcG,vcF,evs,evP,evB,intsOf,fillC,Value.cells,pt,Value.oneCell',reduceIte,reduceCtorEq,Nat.reduceEqDiff,Nat.reduceAdd,Nat.reduceMul,Nat.reduceLT,Nat.reduceBEq,Nat.reduceLeDiff,Nat.reduceSub]
 refine ITri.seq ?_
 refine ITri.reg pok ?_; simp -implicitDefEqProofs (disch:=first|decide|exact of_eq_true (eq_true rfl)|omega|assumption) only [↓vcD,vcE,↓vcG,vcF,evs,evP,evB,intsOf,fillC,Value.cells,pt,Value.oneCell',reduceIte,reduceCtorEq,Nat.reduceEqDiff,Nat.reduceAdd,Nat.reduceMul,Nat.reduceLT,Nat.reduceBEq,Nat.reduceLeDiff,Nat.reduceSub]
 refine ⟨_,_,len_w hb (by omega),?_⟩
 try simp -implicitDefEqProofs (disch:=first|decide|exact of_eq_true (eq_true rfl)|omega|assumption) only [↓vcD,vcE,↓vcG,vcF,evs,evP,evB,intsOf,fillC,Value.cells,pt,Value.oneCell',reduceIte,reduceCtorEq,Nat.reduceEqDiff,Nat.reduceAdd,Nat.reduceMul,Nat.reduceLT,Nat.reduceBEq,Nat.reduceLeDiff,Nat.reduceSub]
 refine ITri.seq ?_
 refine ITri.seq ?_
 refine ITri.reg pok ?_; simp -implicitDefEqProofs (disch:=first|decide|exact of_eq_true (eq_true rfl)|omega|assumption) only [hn0,decide_false, ↓vcD,vcE,↓vcG,vcF,evs,evP,evB,intsOf,fillC,Value.cells,pt,Value.oneCell',reduceIte,reduceCtorEq,Nat.reduceEqDiff,Nat.reduceAdd,Nat.reduceMul,Nat.reduceLT,Nat.reduceBEq,Nat.reduceLeDiff,Nat.reduceSub]
 refine ITri.cond (v:=false) rfl (fun h=>by cases h) (fun _=>?_); refine ITri.skip ?_; simp only [SeqQ_normal,BlkQ_normal]
 refine ITri.seq ?_
 refine ITri.seq ?_
 refine ITri.reg pok ?_; simp -implicitDefEqProofs (disch:=first|decide|exact of_eq_true (eq_true rfl)|omega|assumption) only [↓vcD,vcE,↓vcG,vcF,evs,evP,evB,intsOf,fillC,Value.cells,pt,Value.oneCell',reduceIte,reduceCtorEq,Nat.reduceEqDiff,Nat.reduceAdd,Nat.reduceMul,Nat.reduceLT,Nat.reduceBEq,Nat.reduceLeDiff,Nat.reduceSub]
 refine ⟨_,_,try_no hb hm (by omega) hnC,?_⟩
 try simp -implicitDefEqProofs (disch:=first|decide|exact of_eq_true (eq_true rfl)|omega|assumption) only [↓vcD,vcE,↓vcG,vcF,evs,evP,evB,intsOf,fillC,Value.cells,pt,Value.oneCell',reduceIte,reduceCtorEq,Nat.reduceEqDiff,Nat.reduceAdd,Nat.reduceMul,Nat.reduceLT,Nat.reduceBEq,Nat.reduceLeDiff,Nat.reduceSub]
 refine ITri.seq ?_
 refine ITri.reg pok ?_; simp -implicitDefEqProofs (disch:=first|decide|exact of_eq_true (eq_true rfl)|omega|assumption) only [↓vcD,vcE,↓vcG,vcF,evs,evP,evB,intsOf,fillC,Value.cells,pt,Value.oneCell',reduceIte,reduceCtorEq,Nat.reduceEqDiff,Nat.reduceAdd,Nat.reduceMul,Nat.reduceLT,Nat.reduceBEq,Nat.reduceLeDiff,Nat.reduceSub]
 refine ITri.cond (v:=false) rfl (fun h=>by cases h) (fun _=>?_); refine ITri.skip ?_; simp only [SeqQ_normal,BlkQ_normal]
 refine ITri.seq ?_
 refine ITri.seq ?_
 refine ITri.reg pok ?_; simp -implicitDefEqProofs (disch:=first|decide|exact of_eq_true (eq_true rfl)|omega|assumption) only [hb,notNil,true_and, ↓vcD,vcE,↓vcG,vcF,evs,evP,evB,intsOf,fillC,Value.cells,pt,Value.oneCell',reduceIte,reduceCtorEq,Nat.reduceEqDiff,Nat.reduceAdd,Nat.reduceMul,Nat.reduceLT,Nat.reduceBEq,Nat.reduceLeDiff,Nat.reduceSub]
 refine gen_eqnil' u_slB rfl rfl (get_hq rfl (by rw [hk]; rfl)) (by
  intro e
  have:=congrArg List.length e
  simp only [List.length_append,rows_len,List.length_nil] at this
  omega) ?_
 try simp -implicitDefEqProofs (disch:=first|decide|exact of_eq_true (eq_true rfl)|omega|assumption) only [↓vcD,vcE,↓vcG,vcF,evs,evP,evB,intsOf,fillC,Value.cells,pt,Value.oneCell',reduceIte,reduceCtorEq,Nat.reduceEqDiff,Nat.reduceAdd,Nat.reduceMul,Nat.reduceLT,Nat.reduceBEq,Nat.reduceLeDiff,Nat.reduceSub]
 refine ITri.cond (v:=false) rfl (fun h=>by cases h) (fun _=>?_); refine ITri.skip ?_; simp only [SeqQ_normal,BlkQ_normal]
 refine ITri.seq ?_
 refine ITri.reg pok ?_; simp -implicitDefEqProofs (disch:=first|decide|exact of_eq_true (eq_true rfl)|omega|assumption) only [hb,notNil,true_and, ↓vcD,vcE,↓vcG,vcF,evs,evP,evB,intsOf,fillC,Value.cells,pt,Value.oneCell',reduceIte,reduceCtorEq,Nat.reduceEqDiff,Nat.reduceAdd,Nat.reduceMul,Nat.reduceLT,Nat.reduceBEq,Nat.reduceLeDiff,Nat.reduceSub]
 refine bi_cap u_slB rfl hCo ?_
 try simp -implicitDefEqProofs (disch:=first|decide|exact of_eq_true (eq_true rfl)|omega|assumption) only [↓vcD,vcE,↓vcG,vcF,evs,evP,evB,intsOf,fillC,Value.cells,pt,Value.oneCell',reduceIte,reduceCtorEq,Nat.reduceEqDiff,Nat.reduceAdd,Nat.reduceMul,Nat.reduceLT,Nat.reduceBEq,Nat.reduceLeDiff,Nat.reduceSub]
 refine ITri.seq ?_
 refine ITri.seq ?_
 refine ITri.reg pok ?_; simp -implicitDefEqProofs (disch:=first|decide|exact of_eq_true (eq_true rfl)|omega|assumption) only [hq,decide_false, ↓vcD,vcE,↓vcG,vcF,evs,evP,evB,intsOf,fillC,Value.cells,pt,Value.oneCell',reduceIte,reduceCtorEq,Nat.reduceEqDiff,Nat.reduceAdd,Nat.reduceMul,Nat.reduceLT,Nat.reduceBEq,Nat.reduceLeDiff,Nat.reduceSub]
 refine ITri.cond (v:=false) rfl (fun h=>by cases h) (fun _=>?_)
 refine ITri.seq ?_
 refine ITri.reg pok ?_; simp -implicitDefEqProofs (disch:=first|decide|exact of_eq_true (eq_true rfl)|omega|assumption) only [hq2,decide_false, ↓vcD,vcE,↓vcG,vcF,evs,evP,evB,intsOf,fillC,Value.cells,pt,Value.oneCell',reduceIte,reduceCtorEq,Nat.reduceEqDiff,Nat.reduceAdd,Nat.reduceMul,Nat.reduceLT,Nat.reduceBEq,Nat.reduceLeDiff,Nat.reduceSub]
 refine ITri.cond (v:=false) rfl (fun h=>by cases h) (fun _=>?_)
 refine ITri.draw pok ?_; simp -implicitDefEqProofs (disch:=first|decide|exact of_eq_true (eq_true rfl)|omega|assumption) only [hb,notNil,true_and, ↓vcD,vcE,↓vcG,vcF,evs,evP,evB,intsOf,fillC,Value.cells,pt,Value.oneCell',reduceIte,reduceCtorEq,Nat.reduceEqDiff,Nat.reduceAdd,Nat.reduceMul,Nat.reduceLT,Nat.reduceBEq,Nat.reduceLeDiff,Nat.reduceSub]
 refine gen_from0 u_slB i_u8 rfl rfl rfl hnC hCo ?_
 simp -implicitDefEqProofs (disch:=first|decide|exact of_eq_true (eq_true rfl)|omega|assumption) only [hb,notNil,true_and,Int.zero_add, ↓vcD,vcE,↓vcG,vcF,evs,evP,evB,intsOf,fillC,Value.cells,pt,Value.oneCell',reduceIte,reduceCtorEq,Nat.reduceEqDiff,Nat.reduceAdd,Nat.reduceMul,Nat.reduceLT,Nat.reduceBEq,Nat.reduceLeDiff,Nat.reduceSub]
 refine ⟨_,_,growS_f (n:=n) (C:=C) (m:=m) hbl hyl hno hn1 (by omega) (by omega) (N_lt.2 (by omega)) (get_hq rfl (by rw [hk]; rfl)),?_⟩
 simp -implicitDefEqProofs (disch:=first|decide|exact of_eq_true (eq_true rfl)|omega|assumption) only [news_c,news_n,hb,low_get hb,notNil,true_and,apd_get,apd_get0,apd_set0,apd_set,List.length_append,List.append_assoc,Nat.add_assoc,hwb, ↓vcD,vcE,↓vcG,vcF,evs,evP,evB,intsOf,fillC,Value.cells,pt,Value.oneCell',reduceIte,reduceCtorEq,Nat.reduceEqDiff,Nat.reduceAdd,Nat.reduceMul,Nat.reduceLT,Nat.reduceBEq,Nat.reduceLeDiff,Nat.reduceSub]
 have hb1:((L++[some (AObj.cells ⟨rows eB (grS n m C bs),1,true⟩)]).set kb (bufO (sO L.length n)))[kb]? = some (bufO (sO L.length n)):=set_get (low_get hb)
 have hk1:((L++[some (AObj.cells ⟨rows eB (grS n m C bs),1,true⟩)]).set kb (bufO (sO L.length n)))[L.length]? = some (some (AObj.cells ⟨rows eB (grS n m C bs),1,true⟩)):=by
  rw [List.getElem?_set_ne (by omega),List.getElem?_append_right (Nat.le_refl _),Nat.sub_self]
  rfl
 have hl1:((L++[some (AObj.cells ⟨rows eB (grS n m C bs),1,true⟩)]).set kb (bufO (sO L.length n))).length = L.length + 1:=by simp
 generalize hL1:(L++[some (AObj.cells ⟨rows eB (grS n m C bs),1,true⟩)]).set kb (bufO (sO L.length n)) = L1 at *
 have hbL1:=get_lt hb1
 refine ITri.seq ?_
 refine ITri.reg pok ?_; simp -implicitDefEqProofs (disch:=first|decide|exact of_eq_true (eq_true rfl)|omega|assumption) only [hb1,notNil,true_and,hwb,set_id hb1, ↓vcD,vcE,↓vcG,vcF,evs,evP,evB,intsOf,fillC,Value.cells,pt,Value.oneCell',reduceIte,reduceCtorEq,Nat.reduceEqDiff,Nat.reduceAdd,Nat.reduceMul,Nat.reduceLT,Nat.reduceBEq,Nat.reduceLeDiff,Nat.reduceSub]
 have hwL:wl≤L.length:=by omega
 refine ITri.closeAt (k:=L.length) (kb:=kb) (o:=0) (n:=n) (by rw [hk1]; rfl) (by rw [hb1]; rfl) rfl (by omega) hwL hwb fun C2 zs hC2 hno2 hlen2 hnC2=>?_
 have hgl:(rows eB (grS n m C bs)).length = max (n + m) (2 * C):=by
  rw [rows_len,List.length_append,List.length_replicate,hbl]
  omega
 rw [hgl] at hlen2
 have hl2:clAt L.length kb 0 n C2 (rows eB (grS n m C bs)) zs ⟨[sO L.length n,.int .i64 0,.int .i8 0],1,false⟩ L1 = (L++[some (AObj.cells ⟨rows eB (grS n m C bs)++zs,1,false⟩)]).set kb (bufO (.slice (some ⟨L.length,0,none⟩) n C2)):=by
  unfold clAt
  rw [← hL1,List.set_comm _ _ (show kb≠L.length by omega),snoc_set,List.set_set]
  rfl
 rw [hl2]
 have hb2:((L++[some (AObj.cells ⟨rows eB (grS n m C bs)++zs,1,false⟩)]).set kb (bufO (.slice (some ⟨L.length,0,none⟩) n C2)))[kb]? = some (bufO (.slice (some ⟨L.length,0,none⟩) n C2)):=set_get (low_get hb)
 refine ITri.seq ?_
 refine ITri.reg pok ?_; simp -implicitDefEqProofs (disch:=first|decide|exact of_eq_true (eq_true rfl)|omega|assumption) only [hb2,notNil,true_and,hwb, ↓vcD,vcE,↓vcG,vcF,evs,evP,evB,intsOf,fillC,Value.cells,pt,Value.oneCell',reduceIte,reduceCtorEq,Nat.reduceEqDiff,Nat.reduceAdd,Nat.reduceMul,Nat.reduceLT,Nat.reduceBEq,Nat.reduceLeDiff,Nat.reduceSub]
 refine gen_toC (j:=n + m) u_slB i_u8 rfl rfl (by omega) (by omega) (by unfold openB; omega) ?_
 simp -implicitDefEqProofs (disch:=first|decide|exact of_eq_true (eq_true rfl)|omega|assumption) only [hb2,notNil,true_and,hwb,List.set_set, ↓vcD,vcE,↓vcG,vcF,evs,evP,evB,intsOf,fillC,Value.cells,pt,Value.oneCell',reduceIte,reduceCtorEq,Nat.reduceEqDiff,Nat.reduceAdd,Nat.reduceMul,Nat.reduceLT,Nat.reduceBEq,Nat.reduceLeDiff,Nat.reduceSub]
 have hb3:((L++[some (AObj.cells ⟨rows eB (grS n m C bs)++zs,1,false⟩)]).set kb (bufO (.slice (some ⟨L.length,0,none⟩) (n + m) C2)))[kb]? = some (bufO (.slice (some ⟨L.length,0,none⟩) (n + m) C2)):=set_get (low_get hb)
 have hk3:((L++[some (AObj.cells ⟨rows eB (grS n m C bs)++zs,1,false⟩)]).set kb (bufO (.slice (some ⟨L.length,0,none⟩) (n + m) C2)))[L.length]? = some (some (AObj.cells ⟨rows eB (bs++List.replicate m 0)++(rows eB (List.replicate (max (n + m) (2 * C) - (n + m)) 0)++zs),1,false⟩)):=by
  rw [List.getElem?_set_ne (by omega),List.getElem?_append_right (Nat.le_refl _),Nat.sub_self]
  show some (some (AObj.cells ⟨rows eB (grS n m C bs)++zs,1,false⟩)) = _
  rw [← List.append_assoc,← rows_append,List.append_assoc,List.replicate_append_replicate,show m + (max (n + m) (2 * C) - (n + m)) = max (n + m) (2 * C) - n by omega]
 refine ITri.reopen (k:=L.length) (kb:=kb) (o:=0) (n:=n + m) (C:=C2) (by rw [hk3]; rfl) (noL_app (rows_no (f:=eB) _) hno2) (by rw [rows_len,List.length_append,List.length_append,List.length_replicate,rows_len,List.length_replicate,hbl]; omega) hC2 (by omega) (by
  intro e
  have:=congrArg List.length e
  rw [List.length_append,rows_len,List.length_append,hbl] at this
  simp at this
  omega) (by rw [hb3]; rfl) rfl (by omega) hwL hwb ?_
 refine ITri.seq ?_
 refine ITri.reg pok ?_; simp -implicitDefEqProofs (disch:=first|decide|exact of_eq_true (eq_true rfl)|omega|assumption) only [↓vcD,vcE,↓vcG,vcF,evs,evP,evB,intsOf,fillC,Value.cells,pt,Value.oneCell',reduceIte,reduceCtorEq,Nat.reduceEqDiff,Nat.reduceAdd,Nat.reduceMul,Nat.reduceLT,Nat.reduceBEq,Nat.reduceLeDiff,Nat.reduceSub]
 refine ITri.ret ?_; refine EndX.mk (by simp) (resF_tmp rfl resF_nil) rfl ?_
 unfold opAt
 rw [List.set_comm _ _ (show L.length≠kb by omega),List.set_set,List.set_comm _ _ (show kb≠L.length by omega),snoc_set,snoc_setl hbL,List.append_assoc,List.length_set,List.length_append]
 rfl
end
end Go.Proofs.YtgjokhodccacoaaDoor
