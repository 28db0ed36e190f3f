import Derived.Test.YtgjokhodccacoaaDoorSRecW1
import Derived.RecoverIn
import Derived.Lib.ByteType
set_option linter.unusedSimpArgs false
set_option linter.unusedVariables false
namespace Go.Proofs.YtgjokhodccacoaaDoor
open Go Go.RowKit Go.Vm
set_option maxRecDepth 100000
def ir130_r0:IC:=.reg [⟨some 4,none,false,.mv (.k (.slice none 0 0))⟩] (some [0,1])
def ir130_r2:IC:=.reg [⟨some 8,none,false,.mv (.t 0)⟩,
 ⟨some 9,none,false,.len (.t 8)⟩,
 ⟨some 10,none,false,.mv (.t 1)⟩,
 ⟨some 11,none,false,.ar .add (.t 9) (.t 10)⟩,
 ⟨some 5,none,false,.mv (.t 11)⟩] (some [0,5])
def ir130_r3:IC:=.reg [⟨some 12,none,false,.mv (.t 5)⟩,
 ⟨some 13,none,false,.mv (.t 0)⟩,
 ⟨some 14,none,false,.bi .cap #[22] [(.t 13)]⟩,
 ⟨some 15,none,false,.ar .mul (.k (.int .i64 2)) (.t 14)⟩,
 ⟨some 16,none,false,.cmp .lss (.t 12) (.t 15)⟩] (some [0,5,16])
def ir130_r4:IC:=.reg [⟨some 17,none,false,.mv (.t 0)⟩,
 ⟨some 18,none,false,.bi .cap #[22] [(.t 17)]⟩,
 ⟨some 19,none,false,.ar .mul (.k (.int .i64 2)) (.t 18)⟩,
 ⟨some 5,none,false,.mv (.t 19)⟩] (some [0,5])
def ir130_1:IC:=.cond (.t 16) ir130_r4 .skip
def ir130_2:IC:=.seq ir130_r3 ir130_1
def ir130_r5:IC:=.reg [⟨some 20,none,false,.mv (.t 5)⟩,
 ⟨some 21,none,false,.bi .append #[22,3] [(.k (.slice none 0 0)),(.t 20)]⟩,
 ⟨some 6,none,false,.mv (.t 21)⟩] (some [0,6])
def ir130_r6:IC:=.reg [⟨some 22,none,false,.mv (.t 6)⟩,
 ⟨some 23,none,false,.mv (.t 0)⟩,
 ⟨some 24,none,false,.bi .copy #[22,22] [(.t 22),(.t 23)]⟩,
 ⟨some 7,none,false,.mv (.t 24)⟩] (some [6,7])
def ir130_r7:IC:=.reg [⟨some 25,none,false,.mv (.t 6)⟩,
 ⟨some 26,none,false,.mv (.t 7)⟩,
 ⟨some 27,none,false,.gen (.slice 22 (.tmp 25) none (some (.tmp 26)) none)⟩,
 ⟨some 4,none,false,.mv (.t 27)⟩] (some [4])
def ir130_3:IC:=.seq ir130_r7 .ret
def ir130_4:IC:=.seq ir130_r6 ir130_3
def ir130_5:IC:=.seq ir130_r5 ir130_4
def ir130_6:IC:=.seq ir130_2 ir130_5
def ir130_7:IC:=.seq ir130_r2 ir130_6
def ir130_dops:List IOp:=[]
def dc130:DC:=(.seq ir130_r0 (.dfr ir130_dops (some [0,1]) (.f 137) [] none ir130_7))
theorem fd130:FnD Tryd.prog 130 dc130 28 [.tmp 4]:=⟨Tryd.f130,Tryd.f130.body.getD .skip,Tryd.func130,by kernel_rfl,by kernel_rfl,by kernel_rfl,by kernel_rfl⟩
theorem th137_n {wl:Nat} {L:List (Option AObj)}:Th Tryd.prog 137 [] .nilIface (Hp wl L) (fun h=>h = Hp wl L):=by
 refine ⟨⟨_,_,Tryd.func137,rfl⟩,fun w0 φ κ w R ha u u' hu=>?_⟩
 refine callsDIn_of_wpSIn Tryd.func137 rfl trivial fun c0 cs hc=>?_
 apply wpSIn_seq
 apply wpSIn_region
 have hnn : ∀ w,(binOp .neq 20 .nilIface .nilIface).run Tryd.prog w = .ok (.bool false) w:=fun w=>Lib.run_neq_nil_nil (ms:=#[]) w (by kernel_rfl)
 have fin : ∃ φ' κ',Step w0 φ κ (Hp wl L) φ' κ' (Hp wl L) w:=⟨φ,κ,R.step⟩
 have hres : ∀ t,(results Tryd.f137 t).run Tryd.prog w = .ok (.tuple #[]) w:=fun t=>by simp [results,(show Tryd.f137.results = #[] from rfl)]
 rcases hu c0 cs hc with e|⟨e,_,e2⟩
 ·simp [wpOpsSIn,go_sem,e,hnn,Tryd.ntmps137,Exit.thenS]
  refine wpSIn_cond (t:=false) (by simp [Act.eval,Array.replicate]) ?_
  simp only [Bool.false_eq_true,if_false]
  refine wpSIn_of_wpIn rfl (wpIn_skip ?_)
  exact ⟨rfl,u',rfl,_,hres _,⟨_,rfl⟩,rfl,fin⟩
 ·simp [wpOpsSIn,go_sem,e,hnn,Tryd.ntmps137,Exit.thenS]
  refine wpSIn_cond (t:=false) (by simp [Act.eval,Array.replicate]) ?_
  simp only [Bool.false_eq_true,if_false]
  refine wpSIn_of_wpIn rfl (wpIn_skip ?_)
  exact ⟨rfl,u',e2.symm,_,hres _,⟨_,rfl⟩,rfl,fin⟩
theorem u_intW:Tryd.prog.underlying 3 = some (.int .i64):=by kernel_rfl
theorem z_u8:zeroOf Tryd.prog 5 = some (.int .u8 0):=by kernel_rfl
theorem b_u8:((Tryd.prog.info? 5).get rfl).bytes = 1:=by kernel_rfl
theorem rows_repl (j:Nat):rows eB (List.replicate j 0) = List.replicate j (.int .u8 0):=by
 induction j with
 | zero=>rfl
 | succ j ih =>
  rw [List.replicate_succ,List.replicate_succ,← ih]
  rfl
theorem zlist_u8 (j:Nat):zlist (.int .u8 0) j = rows eB (List.replicate j 0):=by
 rw [rows_repl]
 unfold zlist
 have : ∀ i:Nat,(Value.int .u8 0).cells[i % (Value.int .u8 0).cells.size]! = Value.int .u8 0:=fun i=>by
  show (#[Value.int .u8 0])[i % 1]! = _
  rw [Nat.mod_one]
  rfl
 simp only [this]
 exact List.map_const' .. |>.trans (by rw [List.length_range])
abbrev grS (n m C:Nat) (bs:List Int):List Int:=bs++List.replicate (max (n + m) (2 * C) - n) 0
theorem noL_app {l r:List Value} (h1:noAddrL l = true) (h2:noAddrL r = true):noAddrL (l++r) = true :=
 noL_of fun v hv=>by
  rcases List.mem_append.1 hv with hv|hv
  ·exact noL_all h1 v hv
  ·exact noL_all h2 v hv
theorem growS_c {n C m : Nat} {bs : List Int} {ys : List Value} (hbl : bs.length = n) (hyl : n + ys.length = C) (hn1 : 1 ≤ n) (hC : C ≤ 1000000000) (hm2 : m ≤ 1000000000) :
    Fc Tryd.prog 130 [.slice (some ⟨1,0,none⟩) n C,.int .i64 m] (Hp 2 [none,some (.cells ⟨rows eB bs++ys,0,false⟩)]) (sO 2 n) (Hp 2 [none,some (.cells ⟨rows eB bs++ys,0,false⟩),some (.cells ⟨rows eB (grS n m C bs),1,true⟩)]):=by
 have hmx:n≤max (n + m) (2 * C)∧max (n + m) (2 * C)≤4000000000:=by omega
 have hmx2:(max (n + m) (2 * C) = if n + m < 2 * C then 2 * C else n + m):=by split <;> omega
 have hrl:(rows eB bs).length = n:=by rw [rows_len,hbl,Nat.mul_one]
 unfold grS
 generalize max (n + m) (2 * C) = c at *
 refine Fc.introD fd130 (by simp) (fun _=>grow_hq (by simp) rfl) ?_; simp only [argF]
 refine DTri.seq ?_
 refine ITri.reg pok ?_; simp -implicitDefEqProofs (disch:=first|decide|exact of_eq_true (eq_true rfl)|omega|assumption) only [↓vcD,vcE,↓vcG,vcF,evs,evP,evB,intsOf,fillC,Value.cells,pt,Value.oneCell',reduceIte,reduceCtorEq,Nat.reduceEqDiff,Nat.reduceAdd,Nat.reduceMul,Nat.reduceLT,Nat.reduceBEq,Nat.reduceLeDiff,Nat.reduceSub]
 refine DSeqQ_n (DTri.dfr pok ?_)
 unfold ir130_dops
 try simp -implicitDefEqProofs (disch:=first|decide|exact of_eq_true (eq_true rfl)|omega|assumption) only [↓vcD,vcE,↓vcG,vcF,evs,evP,evB,intsOf,fillC,Value.cells,pt,Value.oneCell',reduceIte,reduceCtorEq,Nat.reduceEqDiff,Nat.reduceAdd,Nat.reduceMul,Nat.reduceLT,Nat.reduceBEq,Nat.reduceLeDiff,Nat.reduceSub]
 refine ⟨_,_,_,_,rfl,rfl,?_⟩
 refine ITri.seq ?_
 refine ITri.reg pok ?_; simp -implicitDefEqProofs (disch:=first|decide|exact of_eq_true (eq_true rfl)|omega|assumption) only [↓vcD,vcE,↓vcG,vcF,evs,evP,evB,intsOf,fillC,Value.cells,pt,Value.oneCell',reduceIte,reduceCtorEq,Nat.reduceEqDiff,Nat.reduceAdd,Nat.reduceMul,Nat.reduceLT,Nat.reduceBEq,Nat.reduceLeDiff,Nat.reduceSub]
 refine ITri.seq ?_
 refine ITri.seq ?_
 refine ITri.reg pok ?_; simp -implicitDefEqProofs (disch:=first|decide|exact of_eq_true (eq_true rfl)|omega|assumption) only [↓vcD,vcE,↓vcG,vcF,evs,evP,evB,intsOf,fillC,Value.cells,pt,Value.oneCell',reduceIte,reduceCtorEq,Nat.reduceEqDiff,Nat.reduceAdd,Nat.reduceMul,Nat.reduceLT,Nat.reduceBEq,Nat.reduceLeDiff,Nat.reduceSub]
 refine bi_cap u_slB rfl (by unfold openB; omega) ?_
 try simp -implicitDefEqProofs (disch:=first|decide|exact of_eq_true (eq_true rfl)|omega|assumption) only [↓vcD,vcE,↓vcG,vcF,evs,evP,evB,intsOf,fillC,Value.cells,pt,Value.oneCell',reduceIte,reduceCtorEq,Nat.reduceEqDiff,Nat.reduceAdd,Nat.reduceMul,Nat.reduceLT,Nat.reduceBEq,Nat.reduceLeDiff,Nat.reduceSub]
 refine ITri.cut (fun _:Unit=>[(0,.slice (some ⟨1,0,none⟩) n C),(5,.int .i64 (c:Int))]) (fun _=>[]) (fun _=>Hp 2 [none,some (.cells ⟨rows eB bs++ys,0,false⟩)]) (fun _=>True) ?_ (fun _ _=>?_)
 ·refine ITri.condD (by rfl) (fun h1=>?_) (fun h1=>?_)
  ·rw [if_pos (by omega)] at hmx2
   refine ITri.reg pok ?_; simp -implicitDefEqProofs (disch:=first|decide|exact of_eq_true (eq_true rfl)|omega|assumption) only [↓vcD,vcE,↓vcG,vcF,evs,evP,evB,intsOf,fillC,Value.cells,pt,Value.oneCell',reduceIte,reduceCtorEq,Nat.reduceEqDiff,Nat.reduceAdd,Nat.reduceMul,Nat.reduceLT,Nat.reduceBEq,Nat.reduceLeDiff,Nat.reduceSub]
   refine bi_cap u_slB rfl (by unfold openB; omega) ?_
   have e:2 * (C:Int) = (c:Int):=by omega
   simp -implicitDefEqProofs (disch:=first|decide|exact of_eq_true (eq_true rfl)|omega|assumption) only [e, ↓vcD,vcE,↓vcG,vcF,evs,evP,evB,intsOf,fillC,Value.cells,pt,Value.oneCell',reduceIte,reduceCtorEq,Nat.reduceEqDiff,Nat.reduceAdd,Nat.reduceMul,Nat.reduceLT,Nat.reduceBEq,Nat.reduceLeDiff,Nat.reduceSub]
   exact CutQ.mk () trivial (Wk.sub ⟨rfl,rfl,trivial⟩)
  rw [if_neg (by omega)] at hmx2
  have e:(n:Int) + m = (c:Int):=by omega
  rw [e]
  refine ITri.skip ?_
  exact CutQ.mk () trivial (Wk.sub ⟨rfl,rfl,trivial⟩)
 have hc:n≤c:=hmx.1
 refine ITri.seq ?_
 refine ITri.reg pok ?_; simp -implicitDefEqProofs (disch:=first|decide|exact of_eq_true (eq_true rfl)|omega|assumption) only [↓vcD,vcE,↓vcG,vcF,evs,evP,evB,intsOf,fillC,Value.cells,pt,Value.oneCell',reduceIte,reduceCtorEq,Nat.reduceEqDiff,Nat.reduceAdd,Nat.reduceMul,Nat.reduceLT,Nat.reduceBEq,Nat.reduceLeDiff,Nat.reduceSub]
 refine bi_zeros u_slB u_intW i_u8 z_u8 (by rw [sz_u8]; rfl) b_u8 sz_u8 rfl rfl (by omega) (by omega) ?_
 rw [zlist_u8]
 try simp -implicitDefEqProofs (disch:=first|decide|exact of_eq_true (eq_true rfl)|omega|assumption) only [↓vcD,vcE,↓vcG,vcF,evs,evP,evB,intsOf,fillC,Value.cells,pt,Value.oneCell',reduceIte,reduceCtorEq,Nat.reduceEqDiff,Nat.reduceAdd,Nat.reduceMul,Nat.reduceLT,Nat.reduceBEq,Nat.reduceLeDiff,Nat.reduceSub]
 refine ITri.seq ?_
 have hT:takeC (rows eB bs++ys) 0 n = some (rows eB bs):=by
  rw [takeC_eq _ _ _ (by rw [List.length_append,hrl]; omega),List.drop_zero,← hrl,List.take_left]
 have hw:writeAt (rows eB (List.replicate c 0)) 0 (rows eB bs) = rows eB (bs++List.replicate (c - n) 0):=by
  unfold writeAt
  rw [rows_append,List.take_zero,List.nil_append,hrl,Nat.zero_add]
  congr 1
  rw [show List.replicate c (0:Int) = List.replicate n 0++List.replicate (c - n) 0 by rw [List.replicate_append_replicate,show n + (c - n) = c by omega],rows_append,List.drop_append_of_le_length (by rw [rows_len,List.length_replicate]; omega),List.drop_of_length_le (by rw [rows_len,List.length_replicate]; omega),List.nil_append]
 refine ITri.reg pok ?_; simp -implicitDefEqProofs (disch:=first|decide|exact of_eq_true (eq_true rfl)|omega|assumption) only [↓vcD,vcE,↓vcG,vcF,evs,evP,evB,intsOf,fillC,Value.cells,pt,Value.oneCell',reduceIte,reduceCtorEq,Nat.reduceEqDiff,Nat.reduceAdd,Nat.reduceMul,Nat.reduceLT,Nat.reduceBEq,Nat.reduceLeDiff,Nat.reduceSub]
 refine bi_copyM u_slB i_u8 sz_u8 rfl (Nat.min_eq_left hc) (by omega) (get_hq rfl rfl) (get_hq rfl rfl) hT (by show 0 + n≤(rows eB (List.replicate c 0)).length; rw [rows_len,List.length_replicate]; omega) (by show 2≤2; decide) (rows_one' (f:=eB) _) (by show (1:Nat)≠0; decide) ?_
 rw [Hq_put 2 _ (by show 2 < 3; decide)]
 simp -implicitDefEqProofs (disch:=first|decide|exact of_eq_true (eq_true rfl)|omega|assumption) only [hw,List.set_cons_succ,List.set_cons_zero, ↓vcD,vcE,↓vcG,vcF,evs,evP,evB,intsOf,fillC,Value.cells,pt,Value.oneCell',reduceIte,reduceCtorEq,Nat.reduceEqDiff,Nat.reduceAdd,Nat.reduceMul,Nat.reduceLT,Nat.reduceBEq,Nat.reduceLeDiff,Nat.reduceSub]
 refine ITri.seq ?_
 refine ITri.reg pok ?_; simp -implicitDefEqProofs (disch:=first|decide|exact of_eq_true (eq_true rfl)|omega|assumption) only [↓vcD,vcE,↓vcG,vcF,evs,evP,evB,intsOf,fillC,Value.cells,pt,Value.oneCell',reduceIte,reduceCtorEq,Nat.reduceEqDiff,Nat.reduceAdd,Nat.reduceMul,Nat.reduceLT,Nat.reduceBEq,Nat.reduceLeDiff,Nat.reduceSub]
 refine gen_toO u_slB i_u8 rfl rfl rfl hc ?_
 try simp -implicitDefEqProofs (disch:=first|decide|exact of_eq_true (eq_true rfl)|omega|assumption) only [↓vcD,vcE,↓vcG,vcF,evs,evP,evB,intsOf,fillC,Value.cells,pt,Value.oneCell',reduceIte,reduceCtorEq,Nat.reduceEqDiff,Nat.reduceAdd,Nat.reduceMul,Nat.reduceLT,Nat.reduceBEq,Nat.reduceLeDiff,Nat.reduceSub]
 refine ITri.ret ?_
 refine ⟨by trivial,(fun _ h=>by cases h),?_⟩
 refine Th.mono th137_n ?_
 rintro _ rfl
 exact ⟨[sO 2 n],resF_tmp rfl resF_nil,rfl,rfl⟩
theorem growS_f {n C m sz k : Nat} {op : Bool} {bs : List Int} {ys : List Value} {h : AH} (hbl : bs.length = n) (hyl : n + ys.length = C) (hno : noAddrL ys = true) (hn1 : 1 ≤ n) (hC : C ≤ 1000000000) (hm2 : m ≤ 1000000000) (hs : h.sees 0 = true) (hg : h.get k = some (.cells ⟨rows eB bs ++ ys, sz, op⟩)) :
    Fc Tryd.prog 130 [.slice (some ⟨k,0,none⟩) n C,.int .i64 m] h (sO h.next n) (h.news [.cells ⟨rows eB (grS n m C bs),1,true⟩]) :=
 Fc.lift1o (os:=[(n,rows eB (grS n m C bs),1)]) (mk:=fun ss=>ss++[.int .i64 m]) (mkv:=fun ss=>ss.headD undef) (growS_c hbl hyl hn1 hC hm2) (MkL.app rfl) MkV.one (noL_app (rows_no (f:=eB) _) hno) (fun o h=>by simp at h; subst h; exact rows_no (f:=eB) _) hs hg
end Go.Proofs.YtgjokhodccacoaaDoor
