import Derived.Test.YtgjokhodccacoaaDoorSRecN2
import Derived.Test.YtgjokhodccacoaaDoorSRecB
set_option linter.unusedSimpArgs false
set_option linter.unusedVariables false
namespace Go.Proofs.YtgjokhodccacoaaDoor
open Go.RowKit Go.Vm
set_option maxRecDepth 100000
theorem getB {xs:List Int} {i:Nat} (hi:i < xs.length):(rows eB xs)[i]? = some (.int .u8 (nth xs i)):=rows_get1 (f:=eB) hi
abbrev t3 (r:Int×Int×Int):Value:=.tuple #[.int .i64 r.1,.int .i64 r.2.1,.int .i64 r.2.2]
def ir20_r0:IC:=.reg [⟨some 2,none,false,.mv (.k (.slice none 0 0))⟩] (some [0])
def ir20_r1:IC:=.reg [⟨some 3,none,false,.bsl 1 0 [] []⟩,
 ⟨some 4,none,false,.mv (.t 0)⟩,
 ⟨some 5,none,false,.app 1 1 (.t 3) (.t 4)⟩,
 ⟨some 2,none,false,.mv (.t 5)⟩] (some [2])
def ir20_1:IC:=.seq ir20_r1 .ret
def ir20_2:IC:=.seq ir20_r0 ir20_1
def ir20:IC:=ir20_2
theorem fn20:FnIs Tryd.prog 20 ir20 6 [.tmp 2]:=⟨Tryd.f20,Tryd.f20.body.getD .skip,Tryd.func20,by kernel_rfl,by kernel_rfl,by kernel_rfl,by kernel_rfl⟩
section
variable {n c sz k:Nat} {op:Bool} {xs:List Int} {h:AH}
end
section
variable {n c sz k:Nat} {op:Bool} {xs:List Int} {h:AH}
end
theorem ownB_c (n c : Nat) (xs : List Int) (hn : xs.length = n) (hb : n ≤ 1000000) :
    Fc Tryd.prog 20 [.slice (some ⟨1,0,none⟩) n c] (Hp 2 [none,srB xs]) (sO 2 n) ((Hp 2 [none,srB xs]).news [.cells ⟨rows eB xs,1,true⟩]):=by
 refine Fc.introR fn20 (by simp) rfl rfl ?_; simp only [argF]
 have hl:(rows eB xs).length = n * 1:=by rw [rows_len,hn]
 refine ITri.seq ?_
 refine ITri.reg pok ?_; simp -implicitDefEqProofs (disch:=first|decide|exact of_eq_true (eq_true rfl)|omega|assumption) only [↓vcD,vcE,↓vcG,vcF,evs,evP,evB,intsOf,fillC,Value.cells,pt,Value.oneCell',reduceIte,reduceCtorEq,Nat.reduceEqDiff,Nat.reduceAdd,Nat.reduceMul,Nat.reduceLT,Nat.reduceBEq,Nat.reduceLeDiff,Nat.reduceSub]
 refine ITri.seq ?_
 by_cases h0:n = 0
 ·subst h0
  obtain rfl:=List.eq_nil_of_length_eq_zero hn
  refine ITri.reg pok ?_; simp -implicitDefEqProofs (disch:=first|decide|exact of_eq_true (eq_true rfl)|omega|assumption) only [appK_0, ↓vcD,vcE,↓vcG,vcF,evs,evP,evB,intsOf,fillC,Value.cells,pt,Value.oneCell',reduceIte,reduceCtorEq,Nat.reduceEqDiff,Nat.reduceAdd,Nat.reduceMul,Nat.reduceLT,Nat.reduceBEq,Nat.reduceLeDiff,Nat.reduceSub]
  refine ITri.ret ?_
  exact end_room (k:=2) (cs:=[]) (op:=false) (n:=0) (mk:=fun s=>s) 0 ⟨fun _ _ _=>rfl,fun _ _ _ h=>h⟩ (by decide) (by decide) (by decide) rfl rfl (by decide) (by first|rfl|simp) (resF_tmp rfl resF_nil) rfl
 ·refine ITri.reg pok ?_; simp -implicitDefEqProofs (disch:=first|decide|exact of_eq_true (eq_true rfl)|omega|assumption) only [hl,rows_allT, ↓vcD,vcE,↓vcG,vcF,evs,evP,evB,intsOf,fillC,Value.cells,pt,Value.oneCell',reduceIte,reduceCtorEq,Nat.reduceEqDiff,Nat.reduceAdd,Nat.reduceMul,Nat.reduceLT,Nat.reduceBEq,Nat.reduceLeDiff,Nat.reduceSub]
  refine ITri.ret ?_
  exact end_mk (k:=3) (n:=n) (mk:=fun s=>s) ⟨fun _ _ _=>rfl,fun _ _ _ h=>h⟩ (by decide) (rows_no (f:=eB) _) rfl (resF_tmp rfl resF_nil) rfl
theorem ownB_f {n c sz k:Nat} {op:Bool} {xs:List Int} {h:AH} (hn:xs.length = n) (hb:n≤1000000) (hs:h.sees 0 = true) (hg:h.get k = some (.cells ⟨rows eB xs,sz,op⟩)):Fc Tryd.prog 20 [.slice (some ⟨k,0,none⟩) n c] h (sO h.next n) (h.news [.cells ⟨rows eB xs,1,true⟩]) :=
 Fc.lift1o (os:=[(n,rows eB xs,1)]) (mk:=fun ss=>ss++[]) (mkv:=fun ss=>ss.headD undef) (ownB_c n c xs hn hb) (MkL.app rfl) MkV.one (rows_no (f:=eB) _) (fun o h=>by simp at h; subst h; exact rows_no (f:=eB) _) hs hg
end Go.Proofs.YtgjokhodccacoaaDoor
