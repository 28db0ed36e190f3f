import Derived.Test.YtgjokhodccacoaaDoorSRecH2
set_option linter.unusedSimpArgs false
set_option linter.unusedVariables false
namespace Go.Vm
open Go Go.RowKit
theorem Rw.low {b b' : Nat} {M:List (Option AObj)} {k c n sz:Nat} {cs:List Value} (h:Rw b M k c n sz cs) (hb:b'≤b):Rw b' M k c n sz cs:=⟨Nat.le_trans hb h.1,h.2⟩
theorem RwV.low {b b' : Nat} {M:List (Option AObj)} {v:Value} {n sz:Nat} {cs:List Value} (h:RwV b M v n sz cs) (hb:b'≤b):RwV b' M v n sz cs:=by
 rcases h with h|⟨k,c,h1,h2⟩
 ·exact .inl h
 ·exact .inr ⟨k,c,h1,h2.low hb⟩
theorem takeW_eq {wl:Nat} {L L' : List (Option AObj)} (h : ∀ i,i < wl→L'[i]? = L[i]?):L'.take wl = L.take wl:=by
 apply List.ext_getElem?
 intro i
 rw [List.getElem?_take,List.getElem?_take]
 split
 ·rename_i hi
  exact h i hi
 ·rfl
end Go.Vm
namespace Go.Proofs.YtgjokhodccacoaaDoor
open Go.RowKit Go.Vm
set_option maxRecDepth 100000
theorem u_pst:Tryd.prog.underlying 63 = some (.pointer 158):=by kernel_rfl
def ir41_r0:IC:=.reg [⟨some 0,none,false,.mv (.k (.pointer none))⟩] (some [])
def ir41_r1:IC:=.reg [⟨some 1,none,false,.bld [(.slice none 0 0),(.bool false)] []⟩,
 ⟨some 2,none,false,.box (.t 1)⟩,
 ⟨some 0,none,false,.mv (.t 2)⟩] (some [0])
def ir41_1:IC:=.seq ir41_r1 .ret
def ir41_2:IC:=.seq ir41_r0 ir41_1
def ir41:IC:=ir41_2
theorem fn41:FnIs Tryd.prog 41 ir41 3 [.tmp 0]:=⟨Tryd.f41,Tryd.f41.body.getD .skip,Tryd.func41,by kernel_rfl,by kernel_rfl,by kernel_rfl,by kernel_rfl⟩
def ir45_r0:IC:=.reg [⟨some 2,none,false,.mv (.k (.int .i64 0))⟩] (some [0])
def ir45_r1:IC:=.reg [⟨some 3,none,false,.mv (.t 0)⟩,
 ⟨some 4,none,false,.gen (.binOp .eql 63 (.tmp 3) (.const (.pointer none)) 63)⟩] (some [0,4])
def ir45_r2:IC:=.reg [⟨some 2,none,false,.mv (.k (.int .i64 0))⟩] (some [2])
def ir45_1:IC:=.seq ir45_r2 .ret
def ir45_2:IC:=.cond (.t 4) ir45_1 .skip
def ir45_3:IC:=.seq ir45_r1 ir45_2
def ir45_r3:IC:=.reg [⟨some 5,none,false,.mv (.t 0)⟩,
 ⟨some 6,none,false,.nilck (.t 5)⟩,
 ⟨some 7,none,false,.fad 0 (.t 6)⟩,
 ⟨some 8,none,false,.ldc (.t 7)⟩,
 ⟨some 9,none,false,.len (.t 8)⟩,
 ⟨some 2,none,false,.mv (.t 9)⟩] (some [2])
def ir45_4:IC:=.seq ir45_r3 .ret
def ir45_5:IC:=.seq ir45_3 ir45_4
def ir45_6:IC:=.seq ir45_r0 ir45_5
def ir45:IC:=ir45_6
theorem fn45:FnIs Tryd.prog 45 ir45 10 [.tmp 2]:=⟨Tryd.f45,Tryd.f45.body.getD .skip,Tryd.func45,by kernel_rfl,by kernel_rfl,by kernel_rfl,by kernel_rfl⟩
section
variable {wl kb k:Nat} {L:List (Option AObj)} {ws xs:List Int}
structure StO (b:Nat) (M:List (Option AObj)) (kb k:Nat) (ws:List Int):Prop where
 hkb:b≤kb
 hk:b≤k
 box:M[kb]? = some (strB (.slice (some ⟨k,0,none⟩) ws.length openB) false)
 row:M[k]? = some (opR ws)
 isb:isB ws
theorem StO.ne {b:Nat} {M:List (Option AObj)} (S:StO b M kb k ws):kb≠k:=fun e=>by
 subst e
 have:=S.box
 rw [S.row] at this
 simp at this
theorem StO.mono {b:Nat} {M M' : List (Option AObj)} (S:StO b M kb k ws) (h1:M'[kb]? = M[kb]?) (h2:M'[k]? = M[k]?):StO b M' kb k ws:=⟨S.hkb,S.hk,by rw [h1]; exact S.box,by rw [h2]; exact S.row,S.isb⟩
structure FdQ (L:List (Option AObj)) (kb k:Nat) (ws:List Int) (v:Value) (e:Int) (L' : List (Option AObj)) (k' : Nat) (fs:List FrT):Prop where
 old : ∀ i,i < L.length→i≠kb→i≠k→L'[i]? = L[i]?
 len:L.length≤L'.length
 rv:RwV L.length L' v fs.length 2 (fcs fs)
 fd:FD L.length L' fs
 res:fs.map (·.2) = (fdF ws 0).1
 err:e = if (fdF ws 0).2.2 = 60 then 0 else (fdF ws 0).2.2
 cut:(fdF ws 0).2.2 = 60→L.length≤k'∧L'[kb]? = some (strB (.slice (some ⟨k',0,none⟩) (ws.length - (fdF ws 0).2.1) openB) false)∧L'[k']? = some (opR (ws.drop (fdF ws 0).2.1))
 brk:(fdF ws 0).2.2≠60→L'[kb]? = some (strB (.slice none 0 0) true)
 fne:(fdF ws 0).2.2 = 60→∀ f∈fs,f.1 < k'
theorem new_x (h0:wl≤L.length):Fc Tryd.prog 41 [] (Hp wl L) (pt L.length) (Hp wl (L++[strB (.slice none 0 0) false])):=by
 refine Fc.introX fn41 (by simp) (fun hw=>grow_hq (by simp) (by have hw:wl≤L.length:=hw; rw [List.take_append_of_le_length hw])) ?_; simp only [argF]
 refine ITri.seq ?_
 refine ITri.reg pok ?_; simp -implicitDefEqProofs (disch:=first|decide|exact of_eq_true (eq_true rfl)|omega|assumption) only [↓vcD,vcE,↓vcG,vcF,evs,evP,evB,intsOf,fillC,Value.cells,pt,Value.oneCell',reduceIte,reduceCtorEq,Nat.reduceEqDiff,Nat.reduceAdd,Nat.reduceMul,Nat.reduceLT,Nat.reduceBEq,Nat.reduceLeDiff,Nat.reduceSub]
 refine ITri.seq ?_
 refine ITri.reg pok ?_; simp -implicitDefEqProofs (disch:=first|decide|exact of_eq_true (eq_true rfl)|omega|assumption) only [apd_get,apd_get0,apd_set0,apd_set,List.length_append,List.append_assoc,Nat.add_assoc,h0, ↓vcD,vcE,↓vcG,vcF,evs,evP,evB,intsOf,fillC,Value.cells,pt,Value.oneCell',reduceIte,reduceCtorEq,Nat.reduceEqDiff,Nat.reduceAdd,Nat.reduceMul,Nat.reduceLT,Nat.reduceBEq,Nat.reduceLeDiff,Nat.reduceSub]
 refine ITri.ret ?_; exact EndX.mk (by simp) (by rfl) (by rfl) (by rfl)
theorem rest_x {v:Value} {br:Bool} {a:Option Addr} {n c:Nat} (hv:v = .slice a n c) (hb:L[kb]? = some (strB v br)):Fc Tryd.prog 45 [pt kb] (Hp wl L) (.int .i64 n) (Hp wl L):=by
 subst hv
 refine Fc.introX fn45 (by simp) (fun hw=>grow_hq (Nat.le_refl _) rfl) ?_; simp only [argF]
 refine ITri.seq ?_
 refine ITri.reg pok ?_; simp -implicitDefEqProofs (disch:=first|decide|exact of_eq_true (eq_true rfl)|omega|assumption) only [↓vcD,vcE,↓vcG,vcF,evs,evP,evB,intsOf,fillC,Value.cells,pt,Value.oneCell',reduceIte,reduceCtorEq,Nat.reduceEqDiff,Nat.reduceAdd,Nat.reduceMul,Nat.reduceLT,Nat.reduceBEq,Nat.reduceLeDiff,Nat.reduceSub]
 refine ITri.seq ?_
 refine ITri.seq ?_
 refine ITri.reg pok ?_; simp -implicitDefEqProofs (disch:=first|decide|exact of_eq_true (eq_true rfl)|omega|assumption) only [↓vcD,vcE,↓vcG,vcF,evs,evP,evB,intsOf,fillC,Value.cells,pt,Value.oneCell',reduceIte,reduceCtorEq,Nat.reduceEqDiff,Nat.reduceAdd,Nat.reduceMul,Nat.reduceLT,Nat.reduceBEq,Nat.reduceLeDiff,Nat.reduceSub]
 refine gen_peq u_pst rfl ?_
 try simp -implicitDefEqProofs (disch:=first|decide|exact of_eq_true (eq_true rfl)|omega|assumption) only [↓vcD,vcE,↓vcG,vcF,evs,evP,evB,intsOf,fillC,Value.cells,pt,Value.oneCell',reduceIte,reduceCtorEq,Nat.reduceEqDiff,Nat.reduceAdd,Nat.reduceMul,Nat.reduceLT,Nat.reduceBEq,Nat.reduceLeDiff,Nat.reduceSub]
 refine ITri.cond (v:=false) rfl (fun h=>by cases h) (fun _=>?_); refine ITri.skip ?_; simp only [SeqQ_normal,BlkQ_normal]
 refine ITri.seq ?_
 refine ITri.reg pok ?_; simp -implicitDefEqProofs (disch:=first|decide|exact of_eq_true (eq_true rfl)|omega|assumption) only [hb, ↓vcD,vcE,↓vcG,vcF,evs,evP,evB,intsOf,fillC,Value.cells,pt,Value.oneCell',reduceIte,reduceCtorEq,Nat.reduceEqDiff,Nat.reduceAdd,Nat.reduceMul,Nat.reduceLT,Nat.reduceBEq,Nat.reduceLeDiff,Nat.reduceSub]
 refine ITri.ret ?_; exact EndX.mk (by simp) (by rfl) (by rfl) (by rfl)
theorem rest_n:Fc Tryd.prog 45 [.pointer none] (Hp wl L) (.int .i64 0) (Hp wl L):=by
 refine Fc.introX fn45 (by simp) (fun hw=>grow_hq (Nat.le_refl _) rfl) ?_; simp only [argF]
 refine ITri.seq ?_
 refine ITri.reg pok ?_; simp -implicitDefEqProofs (disch:=first|decide|exact of_eq_true (eq_true rfl)|omega|assumption) only [↓vcD,vcE,↓vcG,vcF,evs,evP,evB,intsOf,fillC,Value.cells,pt,Value.oneCell',reduceIte,reduceCtorEq,Nat.reduceEqDiff,Nat.reduceAdd,Nat.reduceMul,Nat.reduceLT,Nat.reduceBEq,Nat.reduceLeDiff,Nat.reduceSub]
 refine ITri.seq ?_
 refine ITri.seq ?_
 refine ITri.reg pok ?_; simp -implicitDefEqProofs (disch:=first|decide|exact of_eq_true (eq_true rfl)|omega|assumption) only [↓vcD,vcE,↓vcG,vcF,evs,evP,evB,intsOf,fillC,Value.cells,pt,Value.oneCell',reduceIte,reduceCtorEq,Nat.reduceEqDiff,Nat.reduceAdd,Nat.reduceMul,Nat.reduceLT,Nat.reduceBEq,Nat.reduceLeDiff,Nat.reduceSub]
 refine gen_pnil rfl (by kernel_rfl) ?_
 try simp -implicitDefEqProofs (disch:=first|decide|exact of_eq_true (eq_true rfl)|omega|assumption) only [↓vcD,vcE,↓vcG,vcF,evs,evP,evB,intsOf,fillC,Value.cells,pt,Value.oneCell',reduceIte,reduceCtorEq,Nat.reduceEqDiff,Nat.reduceAdd,Nat.reduceMul,Nat.reduceLT,Nat.reduceBEq,Nat.reduceLeDiff,Nat.reduceSub]
 refine ITri.cond (v:=true) rfl (fun _=>?_) (fun h=>by cases h)
 refine ITri.seq ?_
 refine ITri.reg pok ?_; simp -implicitDefEqProofs (disch:=first|decide|exact of_eq_true (eq_true rfl)|omega|assumption) only [↓vcD,vcE,↓vcG,vcF,evs,evP,evB,intsOf,fillC,Value.cells,pt,Value.oneCell',reduceIte,reduceCtorEq,Nat.reduceEqDiff,Nat.reduceAdd,Nat.reduceMul,Nat.reduceLT,Nat.reduceBEq,Nat.reduceLeDiff,Nat.reduceSub]
 refine ITri.ret ?_; exact EndX.mk (by simp) (by rfl) (by rfl) (by rfl)
theorem feed_n {s:Value}:Fc Tryd.prog 42 [.pointer none,s] (Hp wl L) (.tuple #[.slice none 0 0,.int .i64 1]) (Hp wl L):=by
 refine Fc.introX fn42 (by simp) (fun hw=>grow_hq (Nat.le_refl _) rfl) ?_; simp only [argF]
 refine ITri.seq ?_
 refine ITri.reg pok ?_; simp -implicitDefEqProofs (disch:=first|decide|exact of_eq_true (eq_true rfl)|omega|assumption) only [↓vcD,vcE,↓vcG,vcF,evs,evP,evB,intsOf,fillC,Value.cells,pt,Value.oneCell',reduceIte,reduceCtorEq,Nat.reduceEqDiff,Nat.reduceAdd,Nat.reduceMul,Nat.reduceLT,Nat.reduceBEq,Nat.reduceLeDiff,Nat.reduceSub]
 refine ITri.seq ?_
 refine ITri.block ?_
 refine ITri.seq ?_
 refine ITri.reg pok ?_; simp -implicitDefEqProofs (disch:=first|decide|exact of_eq_true (eq_true rfl)|omega|assumption) only [↓vcD,vcE,↓vcG,vcF,evs,evP,evB,intsOf,fillC,Value.cells,pt,Value.oneCell',reduceIte,reduceCtorEq,Nat.reduceEqDiff,Nat.reduceAdd,Nat.reduceMul,Nat.reduceLT,Nat.reduceBEq,Nat.reduceLeDiff,Nat.reduceSub]
 refine gen_pnil rfl (by kernel_rfl) ?_
 try simp -implicitDefEqProofs (disch:=first|decide|exact of_eq_true (eq_true rfl)|omega|assumption) only [↓vcD,vcE,↓vcG,vcF,evs,evP,evB,intsOf,fillC,Value.cells,pt,Value.oneCell',reduceIte,reduceCtorEq,Nat.reduceEqDiff,Nat.reduceAdd,Nat.reduceMul,Nat.reduceLT,Nat.reduceBEq,Nat.reduceLeDiff,Nat.reduceSub]
 refine ITri.cond (v:=true) rfl (fun _=>?_) (fun h=>by cases h)
 refine ITri.seq ?_
 refine ITri.reg pok ?_; simp -implicitDefEqProofs (disch:=first|decide|exact of_eq_true (eq_true rfl)|omega|assumption) only [↓vcD,vcE,↓vcG,vcF,evs,evP,evB,intsOf,fillC,Value.cells,pt,Value.oneCell',reduceIte,reduceCtorEq,Nat.reduceEqDiff,Nat.reduceAdd,Nat.reduceMul,Nat.reduceLT,Nat.reduceBEq,Nat.reduceLeDiff,Nat.reduceSub]
 refine ITri.ret ?_; exact EndX.mk (by simp) (by rfl) (by rfl) (by rfl)
theorem feed_b {s:Value} (hb:L[kb]? = some (strB (.slice none 0 0) true)):Fc Tryd.prog 42 [pt kb,s] (Hp wl L) (.tuple #[.slice none 0 0,.int .i64 9]) (Hp wl L):=by
 refine Fc.introX fn42 (by simp) (fun hw=>grow_hq (Nat.le_refl _) rfl) ?_; simp only [argF]
 refine ITri.seq ?_
 refine ITri.reg pok ?_; simp -implicitDefEqProofs (disch:=first|decide|exact of_eq_true (eq_true rfl)|omega|assumption) only [↓vcD,vcE,↓vcG,vcF,evs,evP,evB,intsOf,fillC,Value.cells,pt,Value.oneCell',reduceIte,reduceCtorEq,Nat.reduceEqDiff,Nat.reduceAdd,Nat.reduceMul,Nat.reduceLT,Nat.reduceBEq,Nat.reduceLeDiff,Nat.reduceSub]
 refine ITri.seq ?_
 refine ITri.block ?_
 refine ITri.seq ?_
 refine ITri.reg pok ?_; simp -implicitDefEqProofs (disch:=first|decide|exact of_eq_true (eq_true rfl)|omega|assumption) only [↓vcD,vcE,↓vcG,vcF,evs,evP,evB,intsOf,fillC,Value.cells,pt,Value.oneCell',reduceIte,reduceCtorEq,Nat.reduceEqDiff,Nat.reduceAdd,Nat.reduceMul,Nat.reduceLT,Nat.reduceBEq,Nat.reduceLeDiff,Nat.reduceSub]
 refine gen_peq u_pst rfl ?_
 try simp -implicitDefEqProofs (disch:=first|decide|exact of_eq_true (eq_true rfl)|omega|assumption) only [↓vcD,vcE,↓vcG,vcF,evs,evP,evB,intsOf,fillC,Value.cells,pt,Value.oneCell',reduceIte,reduceCtorEq,Nat.reduceEqDiff,Nat.reduceAdd,Nat.reduceMul,Nat.reduceLT,Nat.reduceBEq,Nat.reduceLeDiff,Nat.reduceSub]
 refine ITri.cond (v:=false) rfl (fun h=>by cases h) (fun _=>?_)
 refine ITri.seq ?_
 refine ITri.reg pok ?_; simp -implicitDefEqProofs (disch:=first|decide|exact of_eq_true (eq_true rfl)|omega|assumption) only [hb, ↓vcD,vcE,↓vcG,vcF,evs,evP,evB,intsOf,fillC,Value.cells,pt,Value.oneCell',reduceIte,reduceCtorEq,Nat.reduceEqDiff,Nat.reduceAdd,Nat.reduceMul,Nat.reduceLT,Nat.reduceBEq,Nat.reduceLeDiff,Nat.reduceSub]
 refine ITri.cond (v:=true) rfl (fun _=>?_) (fun h=>by cases h)
 refine ITri.seq ?_
 refine ITri.reg pok ?_; simp -implicitDefEqProofs (disch:=first|decide|exact of_eq_true (eq_true rfl)|omega|assumption) only [↓vcD,vcE,↓vcG,vcF,evs,evP,evB,intsOf,fillC,Value.cells,pt,Value.oneCell',reduceIte,reduceCtorEq,Nat.reduceEqDiff,Nat.reduceAdd,Nat.reduceMul,Nat.reduceLT,Nat.reduceBEq,Nat.reduceLeDiff,Nat.reduceSub]
 refine ITri.ret ?_; exact EndX.mk (by simp) (by rfl) (by rfl) (by rfl)
theorem feed_g {v:Value} {a:Option Addr} {n c:Nat} (hn:10000 < n) (hb:L[kb]? = some (strB v false)):Fc Tryd.prog 42 [pt kb,.slice a n c] (Hp wl L) (.tuple #[.slice none 0 0,.int .i64 5]) (Hp wl L):=by
 have hn' : (10000:Int) < n:=by omega
 refine Fc.introX fn42 (by simp) (fun hw=>grow_hq (Nat.le_refl _) rfl) ?_; simp only [argF]
 refine ITri.seq ?_
 refine ITri.reg pok ?_; simp -implicitDefEqProofs (disch:=first|decide|exact of_eq_true (eq_true rfl)|omega|assumption) only [↓vcD,vcE,↓vcG,vcF,evs,evP,evB,intsOf,fillC,Value.cells,pt,Value.oneCell',reduceIte,reduceCtorEq,Nat.reduceEqDiff,Nat.reduceAdd,Nat.reduceMul,Nat.reduceLT,Nat.reduceBEq,Nat.reduceLeDiff,Nat.reduceSub]
 refine ITri.seq ?_
 refine ITri.block ?_
 refine ITri.seq ?_
 refine ITri.reg pok ?_; simp -implicitDefEqProofs (disch:=first|decide|exact of_eq_true (eq_true rfl)|omega|assumption) only [↓vcD,vcE,↓vcG,vcF,evs,evP,evB,intsOf,fillC,Value.cells,pt,Value.oneCell',reduceIte,reduceCtorEq,Nat.reduceEqDiff,Nat.reduceAdd,Nat.reduceMul,Nat.reduceLT,Nat.reduceBEq,Nat.reduceLeDiff,Nat.reduceSub]
 refine gen_peq u_pst rfl ?_
 try simp -implicitDefEqProofs (disch:=first|decide|exact of_eq_true (eq_true rfl)|omega|assumption) only [↓vcD,vcE,↓vcG,vcF,evs,evP,evB,intsOf,fillC,Value.cells,pt,Value.oneCell',reduceIte,reduceCtorEq,Nat.reduceEqDiff,Nat.reduceAdd,Nat.reduceMul,Nat.reduceLT,Nat.reduceBEq,Nat.reduceLeDiff,Nat.reduceSub]
 refine ITri.cond (v:=false) rfl (fun h=>by cases h) (fun _=>?_)
 refine ITri.seq ?_
 refine ITri.reg pok ?_; simp -implicitDefEqProofs (disch:=first|decide|exact of_eq_true (eq_true rfl)|omega|assumption) only [hb, ↓vcD,vcE,↓vcG,vcF,evs,evP,evB,intsOf,fillC,Value.cells,pt,Value.oneCell',reduceIte,reduceCtorEq,Nat.reduceEqDiff,Nat.reduceAdd,Nat.reduceMul,Nat.reduceLT,Nat.reduceBEq,Nat.reduceLeDiff,Nat.reduceSub]
 refine ITri.cond (v:=false) rfl (fun h=>by cases h) (fun _=>?_)
 refine ITri.seq ?_
 refine ITri.reg pok ?_; simp -implicitDefEqProofs (disch:=first|decide|exact of_eq_true (eq_true rfl)|omega|assumption) only [hn',decide_true, ↓vcD,vcE,↓vcG,vcF,evs,evP,evB,intsOf,fillC,Value.cells,pt,Value.oneCell',reduceIte,reduceCtorEq,Nat.reduceEqDiff,Nat.reduceAdd,Nat.reduceMul,Nat.reduceLT,Nat.reduceBEq,Nat.reduceLeDiff,Nat.reduceSub]
 refine ITri.cond (v:=true) rfl (fun _=>?_) (fun h=>by cases h)
 refine ITri.seq ?_
 refine ITri.reg pok ?_; simp -implicitDefEqProofs (disch:=first|decide|exact of_eq_true (eq_true rfl)|omega|assumption) only [↓vcD,vcE,↓vcG,vcF,evs,evP,evB,intsOf,fillC,Value.cells,pt,Value.oneCell',reduceIte,reduceCtorEq,Nat.reduceEqDiff,Nat.reduceAdd,Nat.reduceMul,Nat.reduceLT,Nat.reduceBEq,Nat.reduceLeDiff,Nat.reduceSub]
 refine ITri.ret ?_; exact EndX.mk (by simp) (by rfl) (by rfl) (by rfl)
theorem feed_x {sv : Value} (S : StO wl L kb k ws) (hwL : wl ≤ L.length) (hx : isB xs) (hn : xs.length ≤ 10000) (hl : ws.length ≤ 900000) (hsv : ∃ a c, sv = .slice a xs.length c) (hs : xs.length ≠ 0 → ∃ k2 o2 c2, sv = .slice (some ⟨k2, o2, none⟩) xs.length c2 ∧ cellsAt (Hp wl L) k2 o2 (xs.length * 1) = some (rows eB xs)) :
    ∃ v e L' k' fs,FdQ L kb k (ws++xs) v e L' k' fs∧Fc Tryd.prog 42 [pt kb,sv] (Hp wl L) (.tuple #[v,.int .i64 e]) (Hp wl L'):=by
 obtain ⟨a0,c0,rfl⟩:=hsv
 obtain ⟨hkb,hk,box,row,isb⟩:=id S
 have hne:=S.ne
 have hkl:=get_lt row
 have hbl:=get_lt box
 have hBw:isB (ws++xs):=fun x hx'=>by
  rcases List.mem_append.1 hx' with h|h
  ·exact isb x h
  ·exact hx x h
 have hn' : ¬ (10000:Int) < xs.length:=by omega
 have hg : ∀ {L' : List (Option AObj)} {v:Value} {e:Int} {k' : Nat} {fs:List FrT},FdQ L kb k (ws++xs) v e L' k' fs→(wl≤L.length→Grow (Hp wl L) (Hp wl L')):=fun F _=>grow_hq F.len (takeW_eq fun (i:Nat) (hi:i < wl)=>F.old i (by omega) (by omega) (by omega))
 by_cases h0:xs.length = 0
 ·obtain rfl:xs = []:=List.eq_nil_of_length_eq_zero h0
  rw [List.append_nil] at *
  obtain ⟨v,e,L',k',fs,F,T⟩:=feed_l (bb:=L.length) hBw (by omega) box row hkb hwL
  have F' : FdQ L kb k ws v e L' k' fs:=⟨fun i hi h1 _=>F.old i hi h1,F.len,F.rv,F.fd,F.res,F.err,F.cut,F.brk,F.fne⟩
  refine ⟨v,e,L',k',fs,F',?_⟩
  refine Fc.introX fn42 (by simp) (hg F') ?_; simp only [argF]
  refine ITri.seq ?_
  refine ITri.reg pok ?_; simp -implicitDefEqProofs (disch:=first|decide|exact of_eq_true (eq_true rfl)|omega|assumption) only [↓vcD,vcE,↓vcG,vcF,evs,evP,evB,intsOf,fillC,Value.cells,pt,Value.oneCell',reduceIte,reduceCtorEq,Nat.reduceEqDiff,Nat.reduceAdd,Nat.reduceMul,Nat.reduceLT,Nat.reduceBEq,Nat.reduceLeDiff,Nat.reduceSub]
  refine ITri.seq ?_
  refine ITri.block ?_
  refine ITri.seq ?_
  refine ITri.reg pok ?_; simp -implicitDefEqProofs (disch:=first|decide|exact of_eq_true (eq_true rfl)|omega|assumption) only [↓vcD,vcE,↓vcG,vcF,evs,evP,evB,intsOf,fillC,Value.cells,pt,Value.oneCell',reduceIte,reduceCtorEq,Nat.reduceEqDiff,Nat.reduceAdd,Nat.reduceMul,Nat.reduceLT,Nat.reduceBEq,Nat.reduceLeDiff,Nat.reduceSub]
  refine gen_peq u_pst rfl ?_
  try simp -implicitDefEqProofs (disch:=first|decide|exact of_eq_true (eq_true rfl)|omega|assumption) only [↓vcD,vcE,↓vcG,vcF,evs,evP,evB,intsOf,fillC,Value.cells,pt,Value.oneCell',reduceIte,reduceCtorEq,Nat.reduceEqDiff,Nat.reduceAdd,Nat.reduceMul,Nat.reduceLT,Nat.reduceBEq,Nat.reduceLeDiff,Nat.reduceSub]
  refine ITri.cond (v:=false) rfl (fun h=>by cases h) (fun _=>?_)
  refine ITri.seq ?_
  refine ITri.reg pok ?_; simp -implicitDefEqProofs (disch:=first|decide|exact of_eq_true (eq_true rfl)|omega|assumption) only [box, ↓vcD,vcE,↓vcG,vcF,evs,evP,evB,intsOf,fillC,Value.cells,pt,Value.oneCell',reduceIte,reduceCtorEq,Nat.reduceEqDiff,Nat.reduceAdd,Nat.reduceMul,Nat.reduceLT,Nat.reduceBEq,Nat.reduceLeDiff,Nat.reduceSub]
  refine ITri.cond (v:=false) rfl (fun h=>by cases h) (fun _=>?_)
  refine ITri.seq ?_
  refine ITri.reg pok ?_; simp -implicitDefEqProofs (disch:=first|decide|exact of_eq_true (eq_true rfl)|omega|assumption) only [hn',decide_false, ↓vcD,vcE,↓vcG,vcF,evs,evP,evB,intsOf,fillC,Value.cells,pt,Value.oneCell',reduceIte,reduceCtorEq,Nat.reduceEqDiff,Nat.reduceAdd,Nat.reduceMul,Nat.reduceLT,Nat.reduceBEq,Nat.reduceLeDiff,Nat.reduceSub]
  refine ITri.cond (v:=false) rfl (fun h=>by cases h) (fun _=>?_); refine ITri.skip ?_; simp only [SeqQ_normal,BlkQ_normal]
  refine ITri.seq ?_
  refine ITri.reg pok ?_; simp -implicitDefEqProofs (disch:=first|decide|exact of_eq_true (eq_true rfl)|omega|assumption) only [box, ↓vcD,vcE,↓vcG,vcF,evs,evP,evB,intsOf,fillC,Value.cells,pt,Value.oneCell',reduceIte,reduceCtorEq,Nat.reduceEqDiff,Nat.reduceAdd,Nat.reduceMul,Nat.reduceLT,Nat.reduceBEq,Nat.reduceLeDiff,Nat.reduceSub]
  rw [appK_zo']
  simp -implicitDefEqProofs (disch:=first|decide|exact of_eq_true (eq_true rfl)|omega|assumption) only [box,hkb,set_id box, ↓vcD,vcE,↓vcG,vcF,evs,evP,evB,intsOf,fillC,Value.cells,pt,Value.oneCell',reduceIte,reduceCtorEq,Nat.reduceEqDiff,Nat.reduceAdd,Nat.reduceMul,Nat.reduceLT,Nat.reduceBEq,Nat.reduceLeDiff,Nat.reduceSub]
  exact T
 ·obtain ⟨k2,o2,c2,hsv,hsc⟩:=hs h0
  injection hsv with hsv1 _ hsv2
  subst hsv1 hsv2
  obtain ⟨M',l',o',r',q'⟩:=Rw.app' (b:=wl) (wl:=wl) (k2:=k2) (o2:=o2) (ne:=xs.length) (bytes:=1) (c2:=c0) (new:=rows eB xs) (show Rw wl L k openB ws.length 1 (rows eB ws) from ⟨hk,by rw [rows_len],true,row,.inl ⟨rfl,rfl⟩⟩) (Nat.le_refl _) hsc h0 (by rw [rows_len]) (by omega) (rows_allT _) hwL
  have e1:ws.length + xs.length = (ws++xs).length:=by rw [List.length_append]
  rw [← rows_append,e1] at r'
  obtain ⟨_,_,op',g',g2⟩:=r'
  obtain rfl:op' = true:=by
   rcases g2 with ⟨_,h⟩|⟨h,_⟩
   ·exact h
   ·exact absurd h (by unfold openB; omega)
  have box' : M'[kb]? = some (strB (.slice (some ⟨k,0,none⟩) ws.length openB) false):=by rw [o' _ hne hbl]; exact box
  obtain ⟨L1,hL1⟩ : ∃ L1,M'.set kb (strB (.slice (some ⟨L.length,0,none⟩) (ws++xs).length openB) false) = L1:=⟨_,rfl⟩
  have n1:L1.length = L.length + 1:=by rw [← hL1,List.length_set]; exact l'
  have b1:L1[kb]? = some (strB (.slice (some ⟨L.length,0,none⟩) (ws++xs).length openB) false):=by rw [← hL1,List.getElem?_set_self (by omega)]
  have w1:L1[L.length]? = some (opR (ws++xs)):=by rw [← hL1,List.getElem?_set_ne (by omega)]; exact g'
  obtain ⟨v,e,L',k',fs,F,T⟩:=feed_l (wl:=wl) (bb:=L.length) hBw (by omega) b1 w1 hkb (by omega)
  have F' : FdQ L kb k (ws++xs) v e L' k' fs:=⟨fun i hi h1 h2=>by
   rw [F.old i (by omega) h1,← hL1,List.getElem?_set_ne (by omega),o' i h2 hi],by have:=F.len; omega,F.rv.low (by omega),fun g hg=>⟨by have:=(F.fd g hg).1; omega,(F.fd g hg).2⟩,F.res,F.err,fun h=>⟨by have:=(F.cut h).1; omega,(F.cut h).2⟩,F.brk,F.fne⟩
  refine ⟨v,e,L',k',fs,F',?_⟩
  refine Fc.introX fn42 (by simp) (hg F') ?_; simp only [argF]
  refine ITri.seq ?_
  refine ITri.reg pok ?_; simp -implicitDefEqProofs (disch:=first|decide|exact of_eq_true (eq_true rfl)|omega|assumption) only [↓vcD,vcE,↓vcG,vcF,evs,evP,evB,intsOf,fillC,Value.cells,pt,Value.oneCell',reduceIte,reduceCtorEq,Nat.reduceEqDiff,Nat.reduceAdd,Nat.reduceMul,Nat.reduceLT,Nat.reduceBEq,Nat.reduceLeDiff,Nat.reduceSub]
  refine ITri.seq ?_
  refine ITri.block ?_
  refine ITri.seq ?_
  refine ITri.reg pok ?_; simp -implicitDefEqProofs (disch:=first|decide|exact of_eq_true (eq_true rfl)|omega|assumption) only [↓vcD,vcE,↓vcG,vcF,evs,evP,evB,intsOf,fillC,Value.cells,pt,Value.oneCell',reduceIte,reduceCtorEq,Nat.reduceEqDiff,Nat.reduceAdd,Nat.reduceMul,Nat.reduceLT,Nat.reduceBEq,Nat.reduceLeDiff,Nat.reduceSub]
  refine gen_peq u_pst rfl ?_
  try simp -implicitDefEqProofs (disch:=first|decide|exact of_eq_true (eq_true rfl)|omega|assumption) only [↓vcD,vcE,↓vcG,vcF,evs,evP,evB,intsOf,fillC,Value.cells,pt,Value.oneCell',reduceIte,reduceCtorEq,Nat.reduceEqDiff,Nat.reduceAdd,Nat.reduceMul,Nat.reduceLT,Nat.reduceBEq,Nat.reduceLeDiff,Nat.reduceSub]
  refine ITri.cond (v:=false) rfl (fun h=>by cases h) (fun _=>?_)
  refine ITri.seq ?_
  refine ITri.reg pok ?_; simp -implicitDefEqProofs (disch:=first|decide|exact of_eq_true (eq_true rfl)|omega|assumption) only [box, ↓vcD,vcE,↓vcG,vcF,evs,evP,evB,intsOf,fillC,Value.cells,pt,Value.oneCell',reduceIte,reduceCtorEq,Nat.reduceEqDiff,Nat.reduceAdd,Nat.reduceMul,Nat.reduceLT,Nat.reduceBEq,Nat.reduceLeDiff,Nat.reduceSub]
  refine ITri.cond (v:=false) rfl (fun h=>by cases h) (fun _=>?_)
  refine ITri.seq ?_
  refine ITri.reg pok ?_; simp -implicitDefEqProofs (disch:=first|decide|exact of_eq_true (eq_true rfl)|omega|assumption) only [hn',decide_false, ↓vcD,vcE,↓vcG,vcF,evs,evP,evB,intsOf,fillC,Value.cells,pt,Value.oneCell',reduceIte,reduceCtorEq,Nat.reduceEqDiff,Nat.reduceAdd,Nat.reduceMul,Nat.reduceLT,Nat.reduceBEq,Nat.reduceLeDiff,Nat.reduceSub]
  refine ITri.cond (v:=false) rfl (fun h=>by cases h) (fun _=>?_); refine ITri.skip ?_; simp only [SeqQ_normal,BlkQ_normal]
  refine ITri.seq ?_
  refine ITri.reg pok ?_; simp -implicitDefEqProofs (disch:=first|decide|exact of_eq_true (eq_true rfl)|omega|assumption) only [box, ↓vcD,vcE,↓vcG,vcF,evs,evP,evB,intsOf,fillC,Value.cells,pt,Value.oneCell',reduceIte,reduceCtorEq,Nat.reduceEqDiff,Nat.reduceAdd,Nat.reduceMul,Nat.reduceLT,Nat.reduceBEq,Nat.reduceLeDiff,Nat.reduceSub]
  refine q' _ ?_
  rw [e1]
  simp -implicitDefEqProofs (disch:=first|decide|exact of_eq_true (eq_true rfl)|omega|assumption) only [box',hkb,hL1, ↓vcD,vcE,↓vcG,vcF,evs,evP,evB,intsOf,fillC,Value.cells,pt,Value.oneCell',reduceIte,reduceCtorEq,Nat.reduceEqDiff,Nat.reduceAdd,Nat.reduceMul,Nat.reduceLT,Nat.reduceBEq,Nat.reduceLeDiff,Nat.reduceSub]
  exact T
end
end Go.Proofs.YtgjokhodccacoaaDoor
