import Derived.Test.YtgjokhodccacoaaDoorSRecW6
set_option linter.unusedSimpArgs false
set_option linter.unusedVariables false
namespace Go.Proofs.YtgjokhodccacoaaDoor
open Go.RowKit Go.Vm
set_option maxRecDepth 100000
theorem groups_isB {N:Nat} (h:N < 9223372036854775808):isB (groups N):=by
 have key : ∀ k m acc,m≤k→GrJ N (m,acc)→isB (groups N):=by
  intro k
  induction k with
  | zero =>
   intro m acc hk J
   obtain rfl:m = 0:=by omega
   have:=gr_end J
   obtain ⟨_,_,_,_,j5⟩:=J
   rw [← this]
   exact j5
  | succ k ih =>
   intro m acc hk J
   by_cases h0:m = 0
   ·subst h0
    have:=gr_end J
    obtain ⟨_,_,_,_,j5⟩:=J
    rw [← this]
    exact j5
   ·exact ih _ _ (by omega) (gr_step J h0).1
 exact key _ _ _ (Nat.le_refl _) (gr_begin h)
def frH (kind:Nat) (xs:List Int):List Int:=(kind:Int) :: (groups xs.length++xs)
def frB (kind:Nat) (xs:List Int):List Int:=frH kind xs++[((crc (frH kind xs) / 256:Nat):Int),((crc (frH kind xs) % 256:Nat):Int)]
theorem frH_isB {kind:Nat} {xs:List Int} (hk:kind≤255) (hx:isB xs) (hl:xs.length < 9223372036854775808):isB (frH kind xs):=by
 intro x hx'
 rcases List.mem_cons.1 hx' with rfl|hx'
 ·omega
 ·rcases List.mem_append.1 hx' with h|h
  ·exact groups_isB hl x h
  ·exact hx x h
theorem frH_len {kind:Nat} {xs:List Int}:(frH kind xs).length = 1 + (groups xs.length).length + xs.length:=by
 simp [frH]
 omega
theorem frB_len {kind:Nat} {xs:List Int}:(frB kind xs).length = (frH kind xs).length + 2:=by simp [frB]
theorem shr8 {a:Nat}:shI .shr .i64 (a:Int) 8 = ((a / 256:Nat):Int):=by
 show (a:Int).fdiv (2 ^ (min (8:Int).toNat 64)) = _
 rw [show (min (8:Int).toNat 64) = 8 from rfl,show (2:Int) ^ 8 = 256 from rfl,Int.fdiv_eq_ediv_of_nonneg _ (by decide)]
 simp
theorem wrap_b {a:Nat}:IntKind.u8.wrap (a:Int) = ((a % 256:Nat):Int):=by
 show ((a:Int) % 256) = _
 omega
theorem bys_app {o:Nat} {bs xs:List Int} (ho:bs.length = o):Bys (rows eB (bs++xs)) o xs:=fun i hi=>by
 have h1:o + i < (bs++xs).length:=by rw [List.length_append]; omega
 have:=rows_get1 (f:=eB) h1
 rw [this]
 congr 2
 unfold nth
 rw [List.getD_eq_getElem?_getD,List.getD_eq_getElem?_getD,List.getElem?_append_right (by omega),ho,Nat.add_sub_cancel_left]
 rfl
def ir62_r0:IC:=.reg [⟨some 8,none,false,.mv (.t 0)⟩,
 ⟨some 9,none,false,.nilck (.t 8)⟩,
 ⟨some 10,none,false,.fad 0 (.t 9)⟩,
 ⟨some 11,none,false,.call (.f 103) [(.t 10)]⟩,
 ⟨some 6,none,false,.mv (.t 11)⟩] (some [0,1,2,6])
def ir62_r1:IC:=.reg [⟨some 12,none,false,.mv (.t 0)⟩,
 ⟨some 13,none,false,.nilck (.t 12)⟩,
 ⟨some 14,none,false,.fad 0 (.t 13)⟩,
 ⟨some 15,none,false,.mv (.t 1)⟩,
 ⟨some 16,none,false,.conv .u8 (.t 15)⟩,
 ⟨some 17,none,false,.call (.f 104) [(.t 14),(.t 16)]⟩] (some [0,2,6])
def ir62_r2:IC:=.reg [⟨some 18,none,false,.mv (.t 0)⟩,
 ⟨some 19,none,false,.mv (.t 2)⟩,
 ⟨some 20,none,false,.len (.t 19)⟩,
 ⟨some 21,none,false,.call (.f 75) [(.t 18),(.t 20)]⟩] (some [0,2,6])
def ir62_r3:IC:=.reg [⟨some 22,none,false,.mv (.t 0)⟩,
 ⟨some 23,none,false,.nilck (.t 22)⟩,
 ⟨some 24,none,false,.fad 0 (.t 23)⟩,
 ⟨some 25,none,false,.mv (.t 2)⟩,
 ⟨some 26,none,false,.call (.f 105) [(.t 24),(.t 25)]⟩] (some [0,6])
def ir62_r4:IC:=.reg [⟨some 27,none,false,.mv (.t 0)⟩,
 ⟨some 28,none,false,.nilck (.t 27)⟩,
 ⟨some 29,none,false,.fad 0 (.t 28)⟩,
 ⟨some 30,none,false,.call (.f 63) [(.t 29)]⟩,
 ⟨some 31,none,false,.mv (.t 6)⟩,
 ⟨some 32,none,false,.gen (.slice 22 (.tmp 30) (some (.tmp 31)) none none)⟩,
 ⟨some 33,none,false,.call (.f 21) [(.t 32)]⟩,
 ⟨some 7,none,false,.mv (.t 33)⟩] (some [0,7])
def ir62_r5:IC:=.reg [⟨some 34,none,false,.mv (.t 0)⟩,
 ⟨some 35,none,false,.nilck (.t 34)⟩,
 ⟨some 36,none,false,.fad 0 (.t 35)⟩,
 ⟨some 37,none,false,.mv (.t 7)⟩,
 ⟨some 38,none,false,.shf .shr (.t 37) (.k (.int .u64 8))⟩,
 ⟨some 39,none,false,.conv .u8 (.t 38)⟩,
 ⟨some 40,none,false,.mv (.t 7)⟩,
 ⟨some 41,none,true,.conv .u8 (.t 40)⟩,
 ⟨some 42,none,false,.bsl 1 2 [(.int .u8 0),(.int .u8 0)] [(0,(.t 39)),(1,(.t 41))]⟩,
 ⟨some 43,none,false,.call (.f 105) [(.t 36),(.t 42)]⟩] (some [])
def ir62_1:IC:=.seq ir62_r4 ir62_r5
def ir62_2:IC:=.seq ir62_r3 ir62_1
def ir62_3:IC:=.seq ir62_r2 ir62_2
def ir62_4:IC:=.seq ir62_r1 ir62_3
def ir62_5:IC:=.seq ir62_r0 ir62_4
def ir62:IC:=ir62_5
theorem fn62:FnIs Tryd.prog 62 ir62 44 []:=⟨Tryd.f62,Tryd.f62.body.getD .skip,Tryd.func62,by kernel_rfl,by kernel_rfl,by kernel_rfl,by kernel_rfl⟩
section
variable {wl kb k:Nat} {L:List (Option AObj)} {bs:List Int}
theorem frame_x {kind m k2 o2 c2 : Nat} {xs : List Int} {b2 : Blk} (W : Wr wl L kb k bs) (hk : 1 ≤ kind ∧ kind ≤ 250) (hs : L[k2]? = some (some (AObj.cells b2))) (hx : takeC b2.cells o2 m = some (rows eB xs)) (hxl : xs.length = m) (h2b : k2 ≠ kb) (h2k : k2 ≠ k) (hm : m ≤ 100000) (hsz : bs.length ≤ 100000000) (hB : isB xs) :
    ∃ L' k',WrTo wl L kb k L' k' (bs++frB kind xs)∧Fc Tryd.prog 62 [pt kb,.int .i64 kind,.slice (some ⟨k2,o2,none⟩) m c2] (Hp wl L) (.tuple #[]) (Hp wl L'):=by
 obtain ⟨g1,g2⟩:=groups_len (N:=m) (by omega)
 have hlt:=W.lt
 have h2L:=get_lt hs
 obtain ⟨L1,k1,T1,F1⟩:=wbyte_x (v:=kind) W (by omega)
 have l1:=T1.lt W
 obtain ⟨L2,k2',T2,F2⟩:=number_x (N:=m) T1.st (by omega) (by rw [List.length_append]; simp; omega)
 have l2:=T2.lt T1.st
 have s1:L1[k2]? = some (some (AObj.cells b2)):=by rw [T1.old k2 h2L h2b h2k]; exact hs
 have s2:L2[k2]? = some (some (AObj.cells b2)):=by rw [T2.old k2 (by omega) h2b (by have:=T1.len; omega)]; exact s1
 obtain ⟨L3,k3,T3,F3⟩:=write_x (m:=m) (k2:=k2) (o2:=o2) (c2:=c2) T2.st s2 hx hxl h2b (by have:=T2.len; omega) (.inr (by simp)) (fun h=>by simp at h) (by simp; omega)
 have l3:=T3.lt T2.st
 have e3:bs++[(kind:Int)]++groups m++xs = bs++frH kind xs:=by
  unfold frH
  rw [hxl]
  simp
 rw [e3] at T3
 have hHl:(frH kind xs).length = 1 + (groups m).length + m:=by rw [frH_len,hxl]
 have hcl:=crc_lt (xs:=frH kind xs) (frH kind xs).length
 have hcd:crc (frH kind xs) = crcF (frH kind xs) (frH kind xs).length:=rfl
 obtain ⟨L5,k5,T5,F5⟩:=write_x (m:=2) (k2:=L3.length) (o2:=0) (c2:=2) (xs:=[((crc (frH kind xs) / 256:Nat):Int),((crc (frH kind xs) % 256:Nat):Int)]) (b2:=⟨rows eB [((crc (frH kind xs) / 256:Nat):Int),((crc (frH kind xs) % 256:Nat):Int)],1,false⟩) (T3.st.app (T:=[arB [((crc (frH kind xs) / 256:Nat):Int),((crc (frH kind xs) % 256:Nat):Int)]])) (by rw [List.getElem?_append_right (Nat.le_refl _),Nat.sub_self]; rfl) rfl rfl (by omega) (by omega) (.inl (by decide)) (fun h=>by simp [frH] at h) (by rw [List.length_append,hHl]; omega)
 rw [List.append_assoc] at T5
 refine ⟨L5,k5,(((T1.trans W T2).trans W T3).trans W T5.low),?_⟩
 have hg:wl≤L.length→Grow (Hp wl L) (Hp wl L5):=fun hw=>by
  have G:=((F1.grow hw).trans (F2.grow (by show wl≤L1.length; omega))).trans (F3.grow (by show wl≤L2.length; omega))
  exact (G.trans (grow_hq (by simp) (by rw [List.take_append_of_le_length (by omega)]))).trans (F5.grow (by show wl≤(L3++[_]).length; simp; omega))
 obtain ⟨q0,q1,q2,q3,q4⟩ : 1≤(bs++frH kind xs).length∧kb≠k3∧wl≤k3∧L3[kb]? = some (bufO (.slice (some ⟨k3,0,none⟩) (bs++frH kind xs).length openB))∧L3[k3]? = some (opR (bs++frH kind xs)):=by
  rcases T3.st.st with ⟨h,_,_⟩|h
  ·simp [frH] at h
  ·exact h
 refine Fc.introX fn62 (by simp) hg ?_; simp only [argF]
 refine ITri.seq ?_
 refine ITri.reg pok ?_; simp -implicitDefEqProofs (disch:=first|decide|exact of_eq_true (eq_true rfl)|omega|assumption) only [notNil,true_and, ↓vcD,vcE,↓vcG,vcF,evs,evP,evB,intsOf,fillC,Value.cells,pt,Value.oneCell',reduceIte,reduceCtorEq,Nat.reduceEqDiff,Nat.reduceAdd,Nat.reduceMul,Nat.reduceLT,Nat.reduceBEq,Nat.reduceLeDiff,Nat.reduceSub]
 refine ⟨_,_,len_x W (by omega),?_⟩
 try simp -implicitDefEqProofs (disch:=first|decide|exact of_eq_true (eq_true rfl)|omega|assumption) only [↓vcD,vcE,↓vcG,vcF,evs,evP,evB,intsOf,fillC,Value.cells,pt,Value.oneCell',reduceIte,reduceCtorEq,Nat.reduceEqDiff,Nat.reduceAdd,Nat.reduceMul,Nat.reduceLT,Nat.reduceBEq,Nat.reduceLeDiff,Nat.reduceSub]
 refine ITri.seq ?_
 refine ITri.reg pok ?_; simp -implicitDefEqProofs (disch:=first|decide|exact of_eq_true (eq_true rfl)|omega|assumption) only [notNil,true_and, ↓vcD,vcE,↓vcG,vcF,evs,evP,evB,intsOf,fillC,Value.cells,pt,Value.oneCell',reduceIte,reduceCtorEq,Nat.reduceEqDiff,Nat.reduceAdd,Nat.reduceMul,Nat.reduceLT,Nat.reduceBEq,Nat.reduceLeDiff,Nat.reduceSub]
 refine ⟨_,_,F1,?_⟩
 try simp -implicitDefEqProofs (disch:=first|decide|exact of_eq_true (eq_true rfl)|omega|assumption) only [↓vcD,vcE,↓vcG,vcF,evs,evP,evB,intsOf,fillC,Value.cells,pt,Value.oneCell',reduceIte,reduceCtorEq,Nat.reduceEqDiff,Nat.reduceAdd,Nat.reduceMul,Nat.reduceLT,Nat.reduceBEq,Nat.reduceLeDiff,Nat.reduceSub]
 refine ITri.seq ?_
 refine ITri.reg pok ?_; simp -implicitDefEqProofs (disch:=first|decide|exact of_eq_true (eq_true rfl)|omega|assumption) only [notNil,true_and, ↓vcD,vcE,↓vcG,vcF,evs,evP,evB,intsOf,fillC,Value.cells,pt,Value.oneCell',reduceIte,reduceCtorEq,Nat.reduceEqDiff,Nat.reduceAdd,Nat.reduceMul,Nat.reduceLT,Nat.reduceBEq,Nat.reduceLeDiff,Nat.reduceSub]
 refine ⟨_,_,F2,?_⟩
 try simp -implicitDefEqProofs (disch:=first|decide|exact of_eq_true (eq_true rfl)|omega|assumption) only [↓vcD,vcE,↓vcG,vcF,evs,evP,evB,intsOf,fillC,Value.cells,pt,Value.oneCell',reduceIte,reduceCtorEq,Nat.reduceEqDiff,Nat.reduceAdd,Nat.reduceMul,Nat.reduceLT,Nat.reduceBEq,Nat.reduceLeDiff,Nat.reduceSub]
 refine ITri.seq ?_
 refine ITri.reg pok ?_; simp -implicitDefEqProofs (disch:=first|decide|exact of_eq_true (eq_true rfl)|omega|assumption) only [notNil,true_and, ↓vcD,vcE,↓vcG,vcF,evs,evP,evB,intsOf,fillC,Value.cells,pt,Value.oneCell',reduceIte,reduceCtorEq,Nat.reduceEqDiff,Nat.reduceAdd,Nat.reduceMul,Nat.reduceLT,Nat.reduceBEq,Nat.reduceLeDiff,Nat.reduceSub]
 refine ⟨_,_,F3,?_⟩
 try simp -implicitDefEqProofs (disch:=first|decide|exact of_eq_true (eq_true rfl)|omega|assumption) only [↓vcD,vcE,↓vcG,vcF,evs,evP,evB,intsOf,fillC,Value.cells,pt,Value.oneCell',reduceIte,reduceCtorEq,Nat.reduceEqDiff,Nat.reduceAdd,Nat.reduceMul,Nat.reduceLT,Nat.reduceBEq,Nat.reduceLeDiff,Nat.reduceSub]
 refine ITri.seq ?_
 refine ITri.reg pok ?_; simp -implicitDefEqProofs (disch:=first|decide|exact of_eq_true (eq_true rfl)|omega|assumption) only [notNil,true_and, ↓vcD,vcE,↓vcG,vcF,evs,evP,evB,intsOf,fillC,Value.cells,pt,Value.oneCell',reduceIte,reduceCtorEq,Nat.reduceEqDiff,Nat.reduceAdd,Nat.reduceMul,Nat.reduceLT,Nat.reduceBEq,Nat.reduceLeDiff,Nat.reduceSub]
 refine ⟨_,_,bytes_w q3,?_⟩
 try simp -implicitDefEqProofs (disch:=first|decide|exact of_eq_true (eq_true rfl)|omega|assumption) only [↓vcD,vcE,↓vcG,vcF,evs,evP,evB,intsOf,fillC,Value.cells,pt,Value.oneCell',reduceIte,reduceCtorEq,Nat.reduceEqDiff,Nat.reduceAdd,Nat.reduceMul,Nat.reduceLT,Nat.reduceBEq,Nat.reduceLeDiff,Nat.reduceSub]
 refine gen_fromO (i:=bs.length) u_slB i_u8 sz_u8 rfl rfl rfl (.inl (by rw [List.length_append,hHl]; omega)) ?_
 rw [List.length_append,Nat.add_sub_cancel_left]
 try simp -implicitDefEqProofs (disch:=first|decide|exact of_eq_true (eq_true rfl)|omega|assumption) only [↓vcD,vcE,↓vcG,vcF,evs,evP,evB,intsOf,fillC,Value.cells,pt,Value.oneCell',reduceIte,reduceCtorEq,Nat.reduceEqDiff,Nat.reduceAdd,Nat.reduceMul,Nat.reduceLT,Nat.reduceBEq,Nat.reduceLeDiff,Nat.reduceSub]
 refine ⟨_,_,check_x (by rw [q4]; rfl) (bys_app rfl) (frH_isB (by omega) hB (by omega)) rfl (by rw [hHl]; omega),?_⟩
 try simp -implicitDefEqProofs (disch:=first|decide|exact of_eq_true (eq_true rfl)|omega|assumption) only [↓vcD,vcE,↓vcG,vcF,evs,evP,evB,intsOf,fillC,Value.cells,pt,Value.oneCell',reduceIte,reduceCtorEq,Nat.reduceEqDiff,Nat.reduceAdd,Nat.reduceMul,Nat.reduceLT,Nat.reduceBEq,Nat.reduceLeDiff,Nat.reduceSub]
 have c1:=shr8 (a:=crc (frH kind xs))
 have c2:=wrap_b (a:=crc (frH kind xs))
 refine ITri.reg pok ?_; simp -implicitDefEqProofs (disch:=first|decide|exact of_eq_true (eq_true rfl)|omega|assumption) only [notNil,true_and,c1,c2, ↓vcD,vcE,↓vcG,vcF,evs,evP,evB,intsOf,fillC,Value.cells,pt,Value.oneCell',reduceIte,reduceCtorEq,Nat.reduceEqDiff,Nat.reduceAdd,Nat.reduceMul,Nat.reduceLT,Nat.reduceBEq,Nat.reduceLeDiff,Nat.reduceSub]
 refine ⟨_,_,F5,?_⟩
 exact EndX.mk (by simp) resF_nil rfl rfl
end
end Go.Proofs.YtgjokhodccacoaaDoor
