import Derived.Test.YtgjokhodccacoaaDoorSRecN1
set_option linter.unusedSimpArgs false
set_option linter.unusedVariables false
namespace Go.Vm
open Go Go.RowKit
theorem Fc.drop {P:Program} {f:Nat} {args:List Value} {h h1:AH} {v:Value} (F:Fc P f args h v h1) (hid:h.hid = []) (hw:h.wlim = h.next) (hv:noAddr v = true):Fc P f args h v h :=
 Fc.gc (os:=[]) F hid hw [] [] rfl List.nodup_nil (by simp) (by simp) (by rw [mv_noAddr _ _ _ hv]) (okM_noAddr _ _ _ hv) (fun i o2 h=>by simp at h)
theorem DSeqQ_n {P:Program} {nt b:Nat} {y:DC} {Q:Option (Nat×List Value)→AEx→Fr→AH→Prop} {l:Fr} {h:AH} (T:DTri P nt b y l h Q):DSeqQ P nt b y Q .normal l [] h:=⟨rfl,T⟩
end Go.Vm
namespace Go.Proofs.YtgjokhodccacoaaDoor
open Go.RowKit Go.Vm
set_option maxRecDepth 100000
def ir66_r0:IC:=.reg [⟨some 4,none,false,.mv (.k (.int .i64 0))⟩] (some [0,1,4])
def ir66_r1:IC:=.reg [⟨some 7,none,false,.mv (.t 0)⟩] (some [0,1,4,7])
def ir66_r2:IC:=.reg [⟨some 8,none,false,.gen (.binOp .eql 20 (.tmp 7) (.const .nilIface) 20)⟩] (some [0,1,4,7,8])
def ir66_r3:IC:=.reg [⟨some 5,none,false,.mv (.t 7)⟩] (some [1])
def ir66_r4:IC:=.reg [⟨some 9,none,false,.mv (.t 1)⟩,
 ⟨some 4,none,false,.mv (.t 9)⟩] (some [4])
def ir66_1:IC:=.seq ir66_r4 .ret
def ir66_2:IC:=.seq ir66_r3 ir66_1
def ir66_r5:IC:=.reg [⟨some 10,none,false,.gen (.typeAssert (.tmp 7) 20 26 true)⟩,
 ⟨some 11,none,false,.ext (.t 10) 1⟩,
 ⟨some 12,none,false,.ext (.t 10) 0⟩] (some [0,4,11,12])
def ir66_r6:IC:=.reg [⟨some 6,none,false,.mv (.t 12)⟩] (some [6])
def ir66_r7:IC:=.reg [⟨some 13,none,false,.mv (.t 6)⟩,
 ⟨some 4,none,false,.mv (.t 13)⟩] (some [4])
def ir66_3:IC:=.seq ir66_r7 .ret
def ir66_4:IC:=.seq ir66_r6 ir66_3
def ir66_5:IC:=.cond (.t 11) ir66_4 .skip
def ir66_6:IC:=.seq ir66_r5 ir66_5
def ir66_7:IC:=.cond (.t 8) ir66_2 ir66_6
def ir66_8:IC:=.seq ir66_r2 ir66_7
def ir66_9:IC:=.block 0 ir66_8
def ir66_10:IC:=.seq ir66_r1 ir66_9
def ir66_r8:IC:=.reg [⟨some 14,none,false,.mv (.t 0)⟩,
 ⟨none,none,false,.gen (.panic (.tmp 14))⟩] (some [4])
def ir66_11:IC:=.seq ir66_10 ir66_r8
def ir66_12:IC:=.seq ir66_r0 ir66_11
def ir66:IC:=ir66_12
theorem fn66:FnIs Tryd.prog 66 ir66 15 [.tmp 4]:=⟨Tryd.f66,Tryd.f66.body.getD .skip,Tryd.func66,by kernel_rfl,by kernel_rfl,by kernel_rfl,by kernel_rfl⟩
section
variable {w:Bool} {s:Nat} {l:Fr} {h:AH} {K:Value→AH→Prop}
theorem gen_eqi {t u:Nat} {v:Value} {r:Bool} (hl:lk l s = some v) (hv:noAddr v = true) (e:pureRun Tryd.prog (do Go.eqGuard .eql t (.tmp s) (.const .nilIface) v .nilIface; Go.binOp .eql t v .nilIface) = some (.bool r)) (q:K (.bool r) h):iStep Tryd.prog w (.gen (.binOp .eql t (.tmp s) (.const .nilIface) u)) l h K:=by
 refine ⟨_,_,?_,q⟩
 have e1:aEnv (trOf l) (.tmp s) = some v:=by simp only [aEnv,trOf_get,hl]
 have e2:aEnv (trOf l) (.const .nilIface) = some .nilIface:=rfl
 exact op_bin e1 e2 hv rfl rfl e
theorem gen_ta {t u:Nat} {v r:Value} {b:Bool} (hl:lk l s = some v) (hv:noAddr v = true) (hr:noAddr r = true) (e:pureRun Tryd.prog (Instr.typeAssert v t u b) = some r) (q:K r h):iStep Tryd.prog w (.gen (.typeAssert (.tmp s) t u b)) l h K:=by
 refine ⟨_,_,?_,q⟩
 have e1:aEnv (trOf l) (.tmp s) = some v:=by simp only [aEnv,trOf_get,hl]
 simp only [aOp,e1,hv,hr,if_true,e]
end
theorem caught_n (e:Int) {h:AH} (hs:h.sees 0 = true):Fc Tryd.prog 66 [.nilIface,.int .i64 e] h (.int .i64 e) h:=by
 refine Fc.lift0 ?_ rfl rfl hs
 refine Fc.intro0 fn66 (by simp) rfl rfl ?_; simp only [argF]
 refine ITri.seq ?_
 refine ITri.reg pok ?_; simp -implicitDefEqProofs (disch:=first|decide|exact of_eq_true (eq_true rfl)|omega|assumption) only [↓vcD,vcE,↓vcG,vcF,evs,evP,evB,intsOf,fillC,Value.cells,pt,Value.oneCell',reduceIte,reduceCtorEq,Nat.reduceEqDiff,Nat.reduceAdd,Nat.reduceMul,Nat.reduceLT,Nat.reduceBEq,Nat.reduceLeDiff,Nat.reduceSub]
 refine ITri.seq ?_
 refine ITri.seq ?_
 refine ITri.reg pok ?_; simp -implicitDefEqProofs (disch:=first|decide|exact of_eq_true (eq_true rfl)|omega|assumption) only [↓vcD,vcE,↓vcG,vcF,evs,evP,evB,intsOf,fillC,Value.cells,pt,Value.oneCell',reduceIte,reduceCtorEq,Nat.reduceEqDiff,Nat.reduceAdd,Nat.reduceMul,Nat.reduceLT,Nat.reduceBEq,Nat.reduceLeDiff,Nat.reduceSub]
 refine ITri.block ?_
 refine ITri.seq ?_
 refine ITri.reg pok ?_; simp -implicitDefEqProofs (disch:=first|decide|exact of_eq_true (eq_true rfl)|omega|assumption) only [↓vcD,vcE,↓vcG,vcF,evs,evP,evB,intsOf,fillC,Value.cells,pt,Value.oneCell',reduceIte,reduceCtorEq,Nat.reduceEqDiff,Nat.reduceAdd,Nat.reduceMul,Nat.reduceLT,Nat.reduceBEq,Nat.reduceLeDiff,Nat.reduceSub]
 refine gen_eqi (r:=true) rfl rfl (by kernel_rfl) ?_
 try simp -implicitDefEqProofs (disch:=first|decide|exact of_eq_true (eq_true rfl)|omega|assumption) only [↓vcD,vcE,↓vcG,vcF,evs,evP,evB,intsOf,fillC,Value.cells,pt,Value.oneCell',reduceIte,reduceCtorEq,Nat.reduceEqDiff,Nat.reduceAdd,Nat.reduceMul,Nat.reduceLT,Nat.reduceBEq,Nat.reduceLeDiff,Nat.reduceSub]
 refine ITri.cond (v:=true) rfl (fun _=>?_) (fun h=>by cases h)
 refine ITri.seq ?_
 refine ITri.reg pok ?_; simp -implicitDefEqProofs (disch:=first|decide|exact of_eq_true (eq_true rfl)|omega|assumption) only [↓vcD,vcE,↓vcG,vcF,evs,evP,evB,intsOf,fillC,Value.cells,pt,Value.oneCell',reduceIte,reduceCtorEq,Nat.reduceEqDiff,Nat.reduceAdd,Nat.reduceMul,Nat.reduceLT,Nat.reduceBEq,Nat.reduceLeDiff,Nat.reduceSub]
 refine ITri.seq ?_
 refine ITri.reg pok ?_; simp -implicitDefEqProofs (disch:=first|decide|exact of_eq_true (eq_true rfl)|omega|assumption) only [↓vcD,vcE,↓vcG,vcF,evs,evP,evB,intsOf,fillC,Value.cells,pt,Value.oneCell',reduceIte,reduceCtorEq,Nat.reduceEqDiff,Nat.reduceAdd,Nat.reduceMul,Nat.reduceLT,Nat.reduceBEq,Nat.reduceLeDiff,Nat.reduceSub]
 refine ITri.ret ?_; exact EndR.plain (by simp) (by rfl) (by rfl) (by rfl)
theorem caught_e (x e:Int) {h:AH} (hs:h.sees 0 = true):Fc Tryd.prog 66 [errV x,.int .i64 e] h (.int .i64 x) h:=by
 refine Fc.lift0 ?_ rfl rfl hs
 refine Fc.intro0 fn66 (by simp) rfl rfl ?_; simp only [argF]
 refine ITri.seq ?_
 refine ITri.reg pok ?_; simp -implicitDefEqProofs (disch:=first|decide|exact of_eq_true (eq_true rfl)|omega|assumption) only [↓vcD,vcE,↓vcG,vcF,evs,evP,evB,intsOf,fillC,Value.cells,pt,Value.oneCell',reduceIte,reduceCtorEq,Nat.reduceEqDiff,Nat.reduceAdd,Nat.reduceMul,Nat.reduceLT,Nat.reduceBEq,Nat.reduceLeDiff,Nat.reduceSub]
 refine ITri.seq ?_
 refine ITri.seq ?_
 refine ITri.reg pok ?_; simp -implicitDefEqProofs (disch:=first|decide|exact of_eq_true (eq_true rfl)|omega|assumption) only [↓vcD,vcE,↓vcG,vcF,evs,evP,evB,intsOf,fillC,Value.cells,pt,Value.oneCell',reduceIte,reduceCtorEq,Nat.reduceEqDiff,Nat.reduceAdd,Nat.reduceMul,Nat.reduceLT,Nat.reduceBEq,Nat.reduceLeDiff,Nat.reduceSub]
 refine ITri.block ?_
 refine ITri.seq ?_
 refine ITri.reg pok ?_; simp -implicitDefEqProofs (disch:=first|decide|exact of_eq_true (eq_true rfl)|omega|assumption) only [↓vcD,vcE,↓vcG,vcF,evs,evP,evB,intsOf,fillC,Value.cells,pt,Value.oneCell',reduceIte,reduceCtorEq,Nat.reduceEqDiff,Nat.reduceAdd,Nat.reduceMul,Nat.reduceLT,Nat.reduceBEq,Nat.reduceLeDiff,Nat.reduceSub]
 refine gen_eqi (r:=false) rfl rfl (by kernel_rfl) ?_
 try simp -implicitDefEqProofs (disch:=first|decide|exact of_eq_true (eq_true rfl)|omega|assumption) only [↓vcD,vcE,↓vcG,vcF,evs,evP,evB,intsOf,fillC,Value.cells,pt,Value.oneCell',reduceIte,reduceCtorEq,Nat.reduceEqDiff,Nat.reduceAdd,Nat.reduceMul,Nat.reduceLT,Nat.reduceBEq,Nat.reduceLeDiff,Nat.reduceSub]
 refine ITri.cond (v:=false) rfl (fun h=>by cases h) (fun _=>?_)
 refine ITri.seq ?_
 refine ITri.reg pok ?_; simp -implicitDefEqProofs (disch:=first|decide|exact of_eq_true (eq_true rfl)|omega|assumption) only [↓vcD,vcE,↓vcG,vcF,evs,evP,evB,intsOf,fillC,Value.cells,pt,Value.oneCell',reduceIte,reduceCtorEq,Nat.reduceEqDiff,Nat.reduceAdd,Nat.reduceMul,Nat.reduceLT,Nat.reduceBEq,Nat.reduceLeDiff,Nat.reduceSub]
 refine gen_ta (r:=.tuple #[.int .i64 x,.bool true]) rfl rfl rfl (by kernel_rfl) ?_
 try simp -implicitDefEqProofs (disch:=first|decide|exact of_eq_true (eq_true rfl)|omega|assumption) only [↓vcD,vcE,↓vcG,vcF,evs,evP,evB,intsOf,fillC,Value.cells,pt,Value.oneCell',reduceIte,reduceCtorEq,Nat.reduceEqDiff,Nat.reduceAdd,Nat.reduceMul,Nat.reduceLT,Nat.reduceBEq,Nat.reduceLeDiff,Nat.reduceSub]
 refine ITri.cond (v:=true) rfl (fun _=>?_) (fun h=>by cases h)
 refine ITri.seq ?_
 refine ITri.reg pok ?_; simp -implicitDefEqProofs (disch:=first|decide|exact of_eq_true (eq_true rfl)|omega|assumption) only [↓vcD,vcE,↓vcG,vcF,evs,evP,evB,intsOf,fillC,Value.cells,pt,Value.oneCell',reduceIte,reduceCtorEq,Nat.reduceEqDiff,Nat.reduceAdd,Nat.reduceMul,Nat.reduceLT,Nat.reduceBEq,Nat.reduceLeDiff,Nat.reduceSub]
 refine ITri.seq ?_
 refine ITri.reg pok ?_; simp -implicitDefEqProofs (disch:=first|decide|exact of_eq_true (eq_true rfl)|omega|assumption) only [↓vcD,vcE,↓vcG,vcF,evs,evP,evB,intsOf,fillC,Value.cells,pt,Value.oneCell',reduceIte,reduceCtorEq,Nat.reduceEqDiff,Nat.reduceAdd,Nat.reduceMul,Nat.reduceLT,Nat.reduceBEq,Nat.reduceLeDiff,Nat.reduceSub]
 refine ITri.ret ?_; exact EndR.plain (by simp) (by rfl) (by rfl) (by rfl)
section
variable {wl ks o n c:Nat} {L:List (Option AObj)} {at_:Int}
def nrE (n:Nat) (at_:Int):Int:=if 30000 < n then 5 else 3
theorem newReader_err (h:30000 < n∨at_ < 0∨(n:Int) < at_) (hb:n≤1000000):Fp Tryd.prog 67 [.slice (some ⟨ks,o,none⟩) n c,.int .i64 at_] (Hp wl L) (errV (nrE n at_)) (Hp wl L):=by
 refine Fp.introX fn67 (by simp) (fun _=>Grow.refl _) ?_; simp only [argF]
 refine ITri.seq ?_
 refine ITri.reg pok ?_; simp -implicitDefEqProofs (disch:=first|decide|exact of_eq_true (eq_true rfl)|omega|assumption) only [↓vcD,vcE,↓vcG,vcF,evs,evP,evB,intsOf,fillC,Value.cells,pt,Value.oneCell',reduceIte,reduceCtorEq,Nat.reduceEqDiff,Nat.reduceAdd,Nat.reduceMul,Nat.reduceLT,Nat.reduceBEq,Nat.reduceLeDiff,Nat.reduceSub]
 refine ITri.seq ?_
 refine ITri.block ?_
 refine ITri.seq ?_
 refine ITri.reg pok ?_; simp -implicitDefEqProofs (disch:=first|decide|exact of_eq_true (eq_true rfl)|omega|assumption) only [↓vcD,vcE,↓vcG,vcF,evs,evP,evB,intsOf,fillC,Value.cells,pt,Value.oneCell',reduceIte,reduceCtorEq,Nat.reduceEqDiff,Nat.reduceAdd,Nat.reduceMul,Nat.reduceLT,Nat.reduceBEq,Nat.reduceLeDiff,Nat.reduceSub]
 refine ITri.condD (by rfl) (fun h1=>?_) (fun h1=>?_)
 ·refine ITri.panE pok (mkE _) ?_
  simp only [SeqQ_pan,BlkQ_pan,LoopQ_pan,CutQ_pan]
  have e:nrE n at_ = 5:=if_pos (by omega)
  rw [e]
  exact ⟨rfl,rfl,rfl⟩
 have e:nrE n at_ = 3:=if_neg (by omega)
 refine ITri.seq ?_
 refine ITri.one [(0,.slice (some ⟨ks,o,none⟩) n c),(1,.int .i64 at_),(10,.bool true)] ?_ ?_
 ·by_cases g:at_ < 0
  ·refine ITri.reg pok ?_; simp -implicitDefEqProofs (disch:=first|decide|exact of_eq_true (eq_true rfl)|omega|assumption) only [g,decide_true, ↓vcD,vcE,↓vcG,vcF,evs,evP,evB,intsOf,fillC,Value.cells,pt,Value.oneCell',reduceIte,reduceCtorEq,Nat.reduceEqDiff,Nat.reduceAdd,Nat.reduceMul,Nat.reduceLT,Nat.reduceBEq,Nat.reduceLeDiff,Nat.reduceSub]
  ·have g2:(n:Int) < at_:=by omega
   refine ITri.reg pok ?_; simp -implicitDefEqProofs (disch:=first|decide|exact of_eq_true (eq_true rfl)|omega|assumption) only [g,g2,decide_true,decide_false, ↓vcD,vcE,↓vcG,vcF,evs,evP,evB,intsOf,fillC,Value.cells,pt,Value.oneCell',reduceIte,reduceCtorEq,Nat.reduceEqDiff,Nat.reduceAdd,Nat.reduceMul,Nat.reduceLT,Nat.reduceBEq,Nat.reduceLeDiff,Nat.reduceSub]
 refine ITri.cond (v:=true) rfl (fun _=>?_) (fun h=>by cases h)
 refine ITri.panE pok (mkE _) ?_
 simp only [SeqQ_pan,BlkQ_pan,LoopQ_pan,CutQ_pan]
 rw [e]
 exact ⟨rfl,rfl,rfl⟩
theorem newReader_ok (k:Nat) (h1:n≤30000) (h2:k≤n):Fc Tryd.prog 67 [.slice (some ⟨ks,o,none⟩) n c,.int .i64 k] (Hp wl L) (.pointer (some ⟨L.length,0,none⟩)) (Hp wl (L++[some (rdC ks o n c k)])):=by
 have g1 : ¬ 30000 < (n:Int):=by omega
 have g2 : ¬ (k:Int) < 0:=by omega
 have g3 : ¬ (n:Int) < (k:Int):=by omega
 refine Fc.introX fn67 (by simp) (fun hw=>grow_hq (by simp) (by have hw:wl≤L.length:=hw; rw [List.take_append_of_le_length hw])) ?_; simp only [argF]
 refine ITri.seq ?_
 refine ITri.reg pok ?_; simp -implicitDefEqProofs (disch:=first|decide|exact of_eq_true (eq_true rfl)|omega|assumption) only [↓vcD,vcE,↓vcG,vcF,evs,evP,evB,intsOf,fillC,Value.cells,pt,Value.oneCell',reduceIte,reduceCtorEq,Nat.reduceEqDiff,Nat.reduceAdd,Nat.reduceMul,Nat.reduceLT,Nat.reduceBEq,Nat.reduceLeDiff,Nat.reduceSub]
 refine ITri.seq ?_
 refine ITri.block ?_
 refine ITri.seq ?_
 refine ITri.reg pok ?_; simp -implicitDefEqProofs (disch:=first|decide|exact of_eq_true (eq_true rfl)|omega|assumption) only [g1,decide_false, ↓vcD,vcE,↓vcG,vcF,evs,evP,evB,intsOf,fillC,Value.cells,pt,Value.oneCell',reduceIte,reduceCtorEq,Nat.reduceEqDiff,Nat.reduceAdd,Nat.reduceMul,Nat.reduceLT,Nat.reduceBEq,Nat.reduceLeDiff,Nat.reduceSub]
 refine ITri.cond (v:=false) rfl (fun h=>by cases h) (fun _=>?_)
 refine ITri.seq ?_
 refine ITri.reg pok ?_; simp -implicitDefEqProofs (disch:=first|decide|exact of_eq_true (eq_true rfl)|omega|assumption) only [g2,g3,decide_false, ↓vcD,vcE,↓vcG,vcF,evs,evP,evB,intsOf,fillC,Value.cells,pt,Value.oneCell',reduceIte,reduceCtorEq,Nat.reduceEqDiff,Nat.reduceAdd,Nat.reduceMul,Nat.reduceLT,Nat.reduceBEq,Nat.reduceLeDiff,Nat.reduceSub]
 refine ITri.cond (v:=false) rfl (fun h=>by cases h) (fun _=>?_); refine ITri.skip ?_; simp only [SeqQ_normal,BlkQ_normal]
 refine ITri.seq ?_
 refine ITri.reg pok ?_; simp -implicitDefEqProofs (disch:=first|decide|exact of_eq_true (eq_true rfl)|omega|assumption) only [↓vcD,vcE,↓vcG,vcF,evs,evP,evB,intsOf,fillC,Value.cells,pt,Value.oneCell',reduceIte,reduceCtorEq,Nat.reduceEqDiff,Nat.reduceAdd,Nat.reduceMul,Nat.reduceLT,Nat.reduceBEq,Nat.reduceLeDiff,Nat.reduceSub]
 refine ITri.ret ?_; exact EndX.mk (by simp) (by rfl) (by rfl) (by rfl)
end
abbrev bx (v:Int):Option AObj:=some (.cells ⟨[.int .i64 v],1,false⟩)
section
variable {src:Option AObj} {T:List (Option AObj)}
end
theorem Th.mono {g:Nat} {cap:List Value} {v:Value} {h:AH} {Z Z' : AH→Prop} (T:Th Tryd.prog g cap v h Z) (hz : ∀ h2,Z h2→Z' h2):Th Tryd.prog g cap v h Z' :=
 ⟨T.body,fun w0 φ κ w R ha u u' hu=>(T.run w0 φ κ w R ha u u' hu).mono (by
  rintro e u2 w' ⟨q1,q2,h2,φ',κ',q3,q4⟩
  exact ⟨q1,q2,h2,φ',κ',hz _ q3,q4⟩)⟩
theorem okc_int:okCell Tryd.prog 3 = true:=by kernel_rfl
theorem okc_errno:okCell Tryd.prog 26 = true:=by kernel_rfl
abbrev srB (xs:List Int):Option AObj:=some (.cells ⟨rows eB xs,0,false⟩)
theorem bys_rows (xs:List Int):Bys (rows eB xs) 0 xs:=fun i hi=>by rw [Nat.zero_add]; exact rows_get1 (f:=eB) hi
def resN (xs:List Int) (most:Int) (f:Int→Int) (at_:Int):Int×Int×Int :=
 if 30000 < xs.length then (0,0,5) else if at_ < 0∨(xs.length:Int) < at_ then (0,0,3) else match numG xs most at_.toNat 9 0 with
  | .ok v nx=>(f v,nx,0)
  | .err e _=>(0,0,e)
theorem numG_e {xs:List Int} {most:Int} {at_ nx:Nat} {e:Int} : ∀ k i,numG xs most at_ k i = .err e nx→e≠0
 | 0,i,h=>by injection h with h; omega
 | k + 1,i,h=>by
  rw [numG] at h
  split at h
  ·injection h with h; omega
  split at h
  ·injection h with h; omega
  split at h
  ·split at h
   ·injection h with h; omega
   ·cases h
  ·exact numG_e k (i + 1) h
end Go.Proofs.YtgjokhodccacoaaDoor
