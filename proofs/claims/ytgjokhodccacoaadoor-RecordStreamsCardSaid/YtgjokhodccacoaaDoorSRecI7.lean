import Derived.Test.YtgjokhodccacoaaDoorSRecI4
set_option linter.unusedSimpArgs false
set_option linter.unusedVariables false
namespace Go.Proofs.YtgjokhodccacoaaDoor
open Go.RowKit Go.Vm
set_option maxRecDepth 100000
abbrev PB:=List Int×Nat
def pbCells:Nat→List PB→List Value
 | _,[]=>[]
 | i,f :: r=>.slice (some ⟨i,0,none⟩) f.1.length f.2 :: pbCells (i + 1) r
def pbMem (fs:List PB):List (Option AObj):=(none :: fs.map fun f=>srB f.1)++[some (.cells ⟨pbCells 1 fs,0,false⟩)]
theorem pbMem_len (fs:List PB):(pbMem fs).length = fs.length + 2:=by simp [pbMem]
theorem pbMem_pay {fs:List PB} {i:Nat} {f:PB} (h:fs[i]? = some f):(pbMem fs)[i + 1]? = some (srB f.1):=by
 have hlt:=(List.getElem?_eq_some_iff.1 h).1
 unfold pbMem
 rw [List.cons_append,List.getElem?_cons_succ,List.getElem?_append_left (by simpa using hlt),List.getElem?_map,h]
 rfl
theorem pbMem_row (fs:List PB):(pbMem fs)[fs.length + 1]? = some (some (.cells ⟨pbCells 1 fs,0,false⟩)):=by
 unfold pbMem
 rw [List.getElem?_append_right (by simp)]
 simp
theorem pbMem_0 (fs:List PB):(pbMem fs)[0]? = some none:=rfl
theorem pbCells_get : ∀ {fs:List PB} {i k:Nat} {f:PB},fs[i]? = some f→(pbCells k fs)[i]? = some (.slice (some ⟨k + i,0,none⟩) f.1.length f.2)
 | [],_,_,_,h=>by cases h
 | g :: r,0,k,f,h=>by
  have h:some g = some f:=h
  injection h with h
  subst h
  rfl
 | g :: r,i + 1,k,f,h=>by
  have h1:=pbCells_get (fs:=r) (i:=i) (k:=k + 1) (f:=f) h
  show (pbCells (k + 1) r)[i]? = _
  rw [h1,show k + 1 + i = k + (i + 1) by omega]
def sumP:List PB→Nat
 | []=>0
 | f :: r=>f.1.length + sumP r
theorem sumP_snoc : ∀ (fs:List PB) (f:PB),sumP (fs++[f]) = sumP fs + f.1.length
 | [],f=>by simp [sumP]
 | g :: r,f=>by
  show g.1.length + sumP (r++[f]) = g.1.length + sumP r + f.1.length
  rw [sumP_snoc r f]
  omega
theorem sumP_take {fs:List PB} {i:Nat} {f:PB} (h:fs[i]? = some f):sumP (fs.take (i + 1)) = sumP (fs.take i) + f.1.length:=by
 rw [List.take_add_one,h]
 exact sumP_snoc _ _
theorem sumP_le : ∀ (fs:List PB) (i:Nat),sumP (fs.take i)≤sumP fs
 | [],i=>by simp [sumP]
 | g :: r,0=>Nat.zero_le _
 | g :: r,i + 1=>by
  show g.1.length + sumP (r.take i)≤g.1.length + sumP r
  have:=sumP_le r i
  omega
structure StI (L0:List (Option AObj)) (ps:List PB) (kb kx:Nat) (i:Nat) (M:List (Option AObj)) (br:Bool) (wv:Value) (ws:List Int) (k2 bw:Nat):Prop where
 old : ∀ j,j < L0.length→M[j]? = L0[j]?
 len:L0.length < M.length
 sum:ws.length≤sumP (ps.take i)
 isb:isB ws
 box:M[kx]? = some (some (.cells ⟨stV br wv,1,false⟩))
 wvl : ∃ a c,wv = .slice a ws.length c
 run:br = false→StO L0.length M kb k2 ws∧WtV bw M wv ws∧k2 < bw
 brk:br = true→ws = []∧M[kb]? = some (strB (.slice none 0 0) true)
structure StP (L0:List (Option AObj)) (ps:List PB) (kb kx ki:Nat) (i:Nat) (xs:List Int) (M1 M2 M3:List (Option AObj)) (br br' : Bool) (wv wv' v v2:Value) (e:Int) (ws' : List Int):Prop where
 old2 : ∀ j,j < L0.length→M2[j]? = L0[j]?
 old3 : ∀ j,j < L0.length→M3[j]? = L0[j]?
 len3:M1.length≤M3.length
 len2:M1.length≤M2.length
 box2:M2[kx]? = some (some (.cells ⟨stV br wv,1,false⟩))
 box3:M3[kx]? = some (some (.cells ⟨stV br wv,1,false⟩))
 inn:M3[ki]? = some (opR xs)
 wvl : ∃ a c,wv' = .slice a ws'.length c
 kbx : ∃ a c,M3[kb]? = some (strB (.slice a ws'.length c) br')
 frs : ∃ (fs1 fs2:List FrT),RwV M1.length M3 v fs1.length 2 (fcs fs1)∧FD M1.length M3 fs1∧RwV M1.length M3 v2 fs2.length 2 (fcs fs2)∧FD M1.length M3 fs2∧fs1.map (·.2) = fs2.map (·.2)∧fs2.length≤1000000
 next : ∀ M4:List (Option AObj),(∀ j,j < M3.length→j≠ki→j≠kx→M4[j]? = M3[j]?)→M3.length≤M4.length→M4[kx]? = some (some (.cells ⟨stV br' wv',1,false⟩))→∃ k2 bw,StI L0 ps kb kx (i + 1) M4 br' wv' ws' k2 bw
theorem WtV.mono {b:Nat} {M M' : List (Option AObj)} {wv:Value} {ys:List Int} (h:WtV b M wv ys) (e : ∀ (k:Nat) (zs:List Int),b≤k→M[k]? = some (opR zs)→M'[k]? = some (opR zs)):WtV b M' wv ys :=
 ⟨h.1,fun hne=>by
  obtain ⟨k,o,c,zs,h1,h2,h3,h4,h5⟩:=h.2 hne
  exact ⟨k,o,c,zs,h1,h2,e k zs h2 h3,h4,h5⟩⟩
theorem opR_ne {M:List (Option AObj)} {k j sz:Nat} {zs:List Int} {cs:List Value} (h:M[k]? = some (opR zs)) (hj:M[j]? = some (some (.cells ⟨cs,sz,false⟩))):k≠j:=fun e=>by
 subst e
 rw [h] at hj
 injection hj with hj
 injection hj with hj
 injection hj with hj
 injection hj with _ _ hj
 cases hj
section
variable {L0 M:List (Option AObj)} {ps:List PB} {kb kx i k2 bw room ki2:Nat} {br:Bool} {wv:Value} {ws xs:List Int}
theorem st_old {M3 M4:List (Option AObj)} (hkx:kx = L0.length + 1) (h3 : ∀ j,j < L0.length→M3[j]? = L0[j]?) (hl:M.length≤M3.length) (hM:L0.length + 1 < M.length) (h4 : ∀ j,j < M3.length→j≠M.length→j≠kx→M4[j]? = M3[j]?) : ∀ j,j < L0.length→M4[j]? = L0[j]?:=fun j hj=>by
 rw [h4 j (by omega) (by omega) (by omega),h3 j hj]
theorem st_step (I : StI L0 ps kb kx i M br wv ws k2 bw) (hp : ps[i]? = some (xs, room)) (hB : isB xs) (hkb : kb = L0.length) (hkx : kx = L0.length + 1) (hM : L0.length + 1 < M.length) (hpay : L0[i + 1]? = some (srB xs)) (hsum : sumP ps ≤ 30000) (h0 : L0[0]? = some none) :
    ∃ M2 M3 br' wv' v v2 e ws',StP L0 ps kb kx M.length i xs (M++[opR xs]) M2 M3 br br' wv wv' v v2 e ws' ∧
     Fc Tryd.prog 42 [pt kb,sO M.length xs.length] (Hp L0.length (M++[opR xs])) (.tuple #[v,.int .i64 e]) (Hp L0.length M2) ∧
     Fc Tryd.prog 43 [.agg ⟨stV br wv⟩,.slice (some ⟨i + 1,0,none⟩) xs.length room] (Hp M2.length M2) (.tuple #[.agg ⟨stV br' wv'⟩,v2,.int .i64 e]) (Hp M2.length M3):=by
 obtain ⟨M1,hM1⟩ : ∃ M1,M++[opR xs] = M1:=⟨_,rfl⟩
 rw [hM1]
 have l1:M1.length = M.length + 1:=by rw [← hM1,List.length_append]; rfl
 have o1 : ∀ j,j < M.length→M1[j]? = M[j]?:=fun j hj=>by rw [← hM1,List.getElem?_append_left hj]
 have i1:M1[M.length]? = some (opR xs):=by
  rw [← hM1,List.getElem?_append_right (Nat.le_refl _),Nat.sub_self]
  rfl
 have hlt:=(List.getElem?_eq_some_iff.1 hp).1
 have hs1:=sumP_take hp
 have hs2:=sumP_le ps (i + 1)
 have hI1:=get_lt hpay
 simp only at hs1
 obtain ⟨old,len,sum,isb,box,wvl,run,brk⟩:=I
 obtain ⟨a,c,rfl⟩:=wvl
 have old1 : ∀ j,j < L0.length→M1[j]? = L0[j]?:=fun j hj=>by rw [o1 j (by omega),old j hj]
 have box1:M1[kx]? = some (some (.cells ⟨stV br (.slice a ws.length c),1,false⟩)):=by rw [o1 kx (by omega)]; exact box
 have isbw:isB (ws++xs):=fun x h=>by
  rcases List.mem_append.1 h with h|h
  ·exact isb x h
  ·exact hB x h
 cases br with
 | true =>
  obtain ⟨hw,hk⟩:=brk rfl
  subst hw
  have hk1:M1[kb]? = some (strB (.slice none 0 0) true):=by rw [o1 kb (by omega)]; exact hk
  obtain ⟨M3,l3,o3,T3⟩:=rfeed_b (wl:=M1.length) (L:=M1) (a:=a) (n:=0) (c2:=c) (a2:=some ⟨i + 1,0,none⟩) (c:=xs.length) (c3:=room) (by omega)
  have k3:M3[kb]? = some (strB (.slice none 0 0) true):=by rw [o3 kb (by omega)]; exact hk1
  refine ⟨M1,M3,true,.slice a 0 c,.slice none 0 0,.slice none 0 0,9,[],⟨old1,fun j hj=>by rw [o3 j (by omega),old1 j hj],l3,Nat.le_refl _,box1,by rw [o3 kx (by omega)]; exact box1,by rw [o3 _ (by omega)]; exact i1,⟨_,_,rfl⟩,⟨_,_,k3⟩,⟨[],[],.inl ⟨rfl,rfl,rfl⟩,(fun f hf=>by cases hf),.inl ⟨rfl,rfl,rfl⟩,(fun f hf=>by cases hf),rfl,by decide⟩,fun M4 h4 l4 x4=>⟨0,0,st_old (M:=M) hkx (fun j hj=>by rw [o3 j (by omega),old1 j hj]) (by omega) hM h4,by omega,Nat.zero_le _,(fun x hx=>by cases hx),x4,⟨_,_,rfl⟩,fun h=>(by cases h),fun _=>⟨rfl,?_⟩⟩⟩,feed_b hk1,T3⟩
  rw [h4 kb (by omega) (by omega) (by omega)]
  exact k3
 | false =>
  obtain ⟨S,W,hk2⟩:=run rfl
  have hk2l:=get_lt S.row
  have nkx:k2≠kx:=opR_ne S.row box
  have nkb : ∀ (k:Nat) (zs:List Int),M[k]? = some (opR zs)→k≠kb:=fun k zs h=>opR_ne h S.box
  have nkx' : ∀ (k:Nat) (zs:List Int),M[k]? = some (opR zs)→k≠kx:=fun k zs h=>opR_ne h box
  have S1:StO L0.length M1 kb k2 ws:=S.mono (o1 kb (by omega)) (o1 k2 hk2l)
  by_cases hbig:10000 < xs.length
  ·obtain ⟨M3,l3,o3,T3⟩:=rfeed_g (wl:=M1.length) (L:=M1) (a:=a) (n:=ws.length) (c2:=c) (a2:=some ⟨i + 1,0,none⟩) (c:=xs.length) (c3:=room) (by omega) hbig
   have k3:M3[kb]? = some (strB (.slice (some ⟨k2,0,none⟩) ws.length openB) false):=by rw [o3 kb (by omega)]; exact S1.box
   refine ⟨M1,M3,false,.slice a ws.length c,.slice none 0 0,.slice none 0 0,5,ws,⟨old1,fun j hj=>by rw [o3 j (by omega),old1 j hj],l3,Nat.le_refl _,box1,by rw [o3 kx (by omega)]; exact box1,by rw [o3 _ (by omega)]; exact i1,⟨_,_,rfl⟩,⟨_,_,k3⟩,⟨[],[],.inl ⟨rfl,rfl,rfl⟩,(fun f hf=>by cases hf),.inl ⟨rfl,rfl,rfl⟩,(fun f hf=>by cases hf),rfl,by decide⟩,fun M4 h4 l4 x4=>⟨k2,bw,st_old (M:=M) hkx (fun j hj=>by rw [o3 j (by omega),old1 j hj]) (by omega) hM h4,by omega,by omega,isb,x4,⟨_,_,rfl⟩,fun _=>⟨?_,?_,hk2⟩,fun h=>(by cases h)⟩⟩,feed_g hbig S1.box,T3⟩
   ·exact S1.mono (by rw [h4 kb (by omega) (by omega) (by omega),o3 kb (by omega)]) (by rw [h4 k2 (by omega) (by omega) nkx,o3 k2 (by omega)])
   ·exact W.mono fun k zs hk ho => by
      have hkl:=get_lt ho
      rw [h4 k (by omega) (by omega) (nkx' k zs ho),o3 k (by omega),o1 k hkl]
      exact ho
  ·obtain ⟨v,e,M2,k',fs,F,T⟩:=feed_x (sv:=sO M.length xs.length) S1 (by omega) hB (by omega) (by omega) ⟨_,_,rfl⟩ (fun h=>⟨M.length,0,openB,rfl,cells_all i1 (by rw [rows_len])⟩)
   have hfl:=F.len
   have hkL:=S.hk
   have old2 : ∀ j,j < L0.length→M2[j]? = L0[j]?:=fun j hj=>by rw [F.old j (by omega) (by omega) (by omega),old1 j hj]
   have box2:M2[kx]? = some (some (.cells ⟨stV false (.slice a ws.length c),1,false⟩)):=by rw [F.old kx (by omega) (by omega) (by omega)]; exact box1
   have i2:M2[M.length]? = some (opR xs):=by rw [F.old M.length (by omega) (by omega) (by omega)]; exact i1
   have W2:WtV bw M2 (.slice a ws.length c) ws:=W.mono fun k zs hk ho=>by
    have hkl:=get_lt ho
    rw [F.old k (by omega) (nkb k zs ho) (by omega),o1 k hkl]
    exact ho
   obtain ⟨st,v2,e2,M3,fs2,G,T2⟩:=rfeed_x (wl:=M2.length) (sv:=.slice (some ⟨i + 1,0,none⟩) xs.length room) W2 (by omega) isb hB (by omega) (by omega) ⟨_,_,rfl⟩ (fun h=>⟨i + 1,0,room,rfl,cells_all (by rw [old2 _ hI1]; exact hpay) (by rw [rows_len])⟩)
   have hgl:=G.len
   have he:e2 = e:=by rw [G.err,F.err]
   subst he
   have hfs:=fdF_len (ws:=ws++xs) (Nat.zero_le _)
   have hfs2:=congrArg List.length G.res
   rw [List.length_map] at hfs2
   have hwx:(ws++xs).length = ws.length + xs.length:=List.length_append
   have frs : ∃ (fs1 fs2:List FrT),RwV M1.length M3 v fs1.length 2 (fcs fs1)∧FD M1.length M3 fs1∧RwV M1.length M3 v2 fs2.length 2 (fcs fs2)∧FD M1.length M3 fs2∧fs1.map (·.2) = fs2.map (·.2)∧fs2.length≤1000000 :=
    ⟨fs,fs2,F.rv.mono fun k o hk ho=>by rw [G.old k (get_lt ho)]; exact ho,F.fd.mono fun k o hk ho=>by rw [G.old k (get_lt ho)]; exact ho,G.rv.low hfl,fun f hf=>⟨by have:=(G.fd f hf).1; omega,(G.fd f hf).2⟩,by rw [F.res,G.res],by omega⟩
   by_cases h60:(fdF (ws++xs) 0).2.2 = 60
   ·obtain ⟨c1,c2,c3⟩:=F.cut h60
    obtain ⟨wv',rfl,W3⟩:=G.cut h60
    have hk':=get_lt c3
    have hdl:((ws++xs).drop (fdF (ws++xs) 0).2.1).length = (ws++xs).length - (fdF (ws++xs) 0).2.1:=List.length_drop
    have kb3:M3[kb]? = some (strB (.slice (some ⟨k',0,none⟩) ((ws++xs).drop (fdF (ws++xs) 0).2.1).length openB) false):=by rw [G.old kb (by omega),c2,hdl]
    refine ⟨M2,M3,false,wv',v,v2,e2,(ws++xs).drop (fdF (ws++xs) 0).2.1,⟨old2,fun j hj=>by rw [G.old j (by omega),old2 j hj],by omega,hfl,box2,by rw [G.old kx (by omega)]; exact box2,by rw [G.old _ (by omega)]; exact i2,W3.1,⟨_,_,kb3⟩,frs,fun M4 h4 l4 x4=>⟨k',M2.length,st_old (M:=M) hkx (fun j hj=>by rw [G.old j (by omega),old2 j hj]) (by omega) hM h4,by omega,by omega,fun x hx=>isbw x (List.mem_of_mem_drop hx),x4,W3.1,fun _=>⟨⟨S.hkb,by omega,?_,?_,fun x hx=>isbw x (List.mem_of_mem_drop hx)⟩,?_,hk'⟩,fun h=>(by cases h)⟩⟩,T,T2⟩
    ·rw [h4 kb (by omega) (by omega) (by omega)]; exact kb3
    ·rw [h4 k' (by omega) (by omega) (by omega),G.old k' hk']; exact c3
    ·exact W3.mono fun k zs hk ho => by
       rw [h4 k (get_lt ho) (by omega) (by omega)]
       exact ho
   ·have c2:=F.brk h60
    obtain rfl:=G.brk h60
    have kb3:M3[kb]? = some (strB (.slice none 0 0) true):=by rw [G.old kb (by omega),c2]
    refine ⟨M2,M3,true,.slice none 0 0,v,v2,e2,[],⟨old2,fun j hj=>by rw [G.old j (by omega),old2 j hj],by omega,hfl,box2,by rw [G.old kx (by omega)]; exact box2,by rw [G.old _ (by omega)]; exact i2,⟨_,_,rfl⟩,⟨_,_,kb3⟩,frs,fun M4 h4 l4 x4=>⟨0,0,st_old (M:=M) hkx (fun j hj=>by rw [G.old j (by omega),old2 j hj]) (by omega) hM h4,by omega,Nat.zero_le _,(fun x hx=>by cases hx),x4,⟨_,_,rfl⟩,fun h=>(by cases h),fun _=>⟨rfl,?_⟩⟩⟩,T,T2⟩
    rw [h4 kb (by omega) (by omega) (by omega)]
    exact kb3
end
end Go.Proofs.YtgjokhodccacoaaDoor
set_option linter.unusedSimpArgs false
set_option linter.unusedVariables false
namespace Go.Proofs.YtgjokhodccacoaaDoor
open Go.RowKit Go.Vm
set_option maxRecDepth 100000
abbrev frSt (n c kb kx i:Nat):Fr:=[(0,.slice (some ⟨n + 1,0,none⟩) n c),(5,pt kb),(6,pt kx),(7,.int .i64 i)]
def ir9_r0:IC:=.reg [⟨some 2,none,false,.mv (.k (.bool false))⟩] (some [0])
def ir9_r1:IC:=.reg [⟨some 3,none,false,.mv (.k (.int .i64 0))⟩] (some [0,3])
def ir9_r2:IC:=.reg [⟨some 4,none,false,.mv (.k (.int .i64 0))⟩] (some [0,3,4])
def ir9_r3:IC:=.reg [⟨some 18,none,false,.mv (.t 4)⟩,
 ⟨some 19,none,false,.mv (.t 0)⟩,
 ⟨some 20,none,false,.len (.t 19)⟩,
 ⟨some 21,none,false,.cmp .lss (.t 18) (.t 20)⟩,
 ⟨some 22,none,false,.mv (.t 21)⟩,
 ⟨some 23,some (22,true),false,.mv (.t 4)⟩,
 ⟨some 24,some (22,true),false,.cmp .lss (.t 23) (.k (.int .i64 31))⟩,
 ⟨some 25,none,false,.pick (.t 22) (.t 24) (.k (.bool false))⟩] (some [0,3,4,25])
def ir9_1:IC:=.cond (.t 25) .skip (.exit 0)
def ir9_2:IC:=.seq ir9_r3 ir9_1
def ir9_r5:IC:=.reg [⟨some 28,none,false,.mv (.t 3)⟩,
 ⟨some 29,none,false,.mv (.t 0)⟩,
 ⟨some 30,none,false,.mv (.t 4)⟩,
 ⟨some 31,none,false,.iad 1 (.t 29) (.t 30)⟩,
 ⟨some 32,none,false,.ldc (.t 31)⟩,
 ⟨some 33,none,false,.len (.t 32)⟩,
 ⟨some 34,none,true,.ar .add (.t 28) (.t 33)⟩,
 ⟨some 3,none,false,.mv (.t 34)⟩] (some [0,3,4])
def ir9_r6:IC:=.reg [⟨some 35,none,false,.mv (.t 0)⟩,
 ⟨some 36,none,false,.mv (.t 4)⟩,
 ⟨some 37,none,false,.iad 1 (.t 35) (.t 36)⟩,
 ⟨some 38,none,false,.ldc (.t 37)⟩,
 ⟨some 39,none,false,.len (.t 38)⟩,
 ⟨some 40,none,false,.cmp .gtr (.t 39) (.k (.int .i64 10100))⟩] (some [0,3,4,40])
def ir9_r7:IC:=.reg [⟨some 41,none,false,.call (.f 19) []⟩,
 ⟨some 2,none,false,.mv (.t 41)⟩] (some [2])
def ir9_3:IC:=.seq ir9_r7 .ret
def ir9_4:IC:=.cond (.t 40) ir9_3 .skip
def ir9_5:IC:=.seq ir9_r6 ir9_4
def ir9_6:IC:=.seq ir9_r5 ir9_5
def ir9_7:IC:=.block 1 ir9_6
def ir9_r4:IC:=.reg [⟨some 26,none,false,.mv (.t 4)⟩,
 ⟨some 27,none,false,.ar .add (.t 26) (.k (.int .i64 1))⟩,
 ⟨some 4,none,false,.mv (.t 27)⟩] (some [0,3,4])
def ir9_8:IC:=.seq ir9_7 ir9_r4
def ir9_9:IC:=.seq ir9_2 ir9_8
def ir9_10:IC:=.loop ir9_9
def ir9_11:IC:=.block 0 ir9_10
def ir9_12:IC:=.seq ir9_r2 ir9_11
def ir9_r8:IC:=.reg [⟨some 42,none,false,.mv (.t 0)⟩,
 ⟨some 43,none,false,.len (.t 42)⟩,
 ⟨some 44,none,false,.cmp .gtr (.t 43) (.k (.int .i64 30))⟩,
 ⟨some 45,none,false,.mv (.t 44)⟩,
 ⟨some 46,some (45,false),false,.mv (.t 3)⟩,
 ⟨some 47,some (45,false),false,.cmp .gtr (.t 46) (.k (.int .i64 30000))⟩,
 ⟨some 48,none,false,.pick (.t 45) (.k (.bool true)) (.t 47)⟩] (some [0,48])
def ir9_r9:IC:=.reg [⟨some 49,none,false,.call (.f 19) []⟩,
 ⟨some 2,none,false,.mv (.t 49)⟩] (some [2])
def ir9_13:IC:=.seq ir9_r9 .ret
def ir9_14:IC:=.cond (.t 48) ir9_13 .skip
def ir9_15:IC:=.seq ir9_r8 ir9_14
def ir9_r10:IC:=.reg [⟨some 50,none,false,.call (.f 41) []⟩,
 ⟨some 51,none,false,.bld [(.bool false),(.bool false),(.slice none 0 0)] []⟩,
 ⟨some 6,none,false,.alloc [(.bool false),(.bool false),(.slice none 0 0)]⟩,
 ⟨some 5,none,false,.mv (.t 50)⟩,
 ⟨none,none,false,.st 3 (.t 6) (.t 51)⟩] (some [0,5,6])
def ir9_r11:IC:=.reg [⟨some 52,none,false,.mv (.t 5)⟩,
 ⟨some 53,none,false,.gen (.binOp .eql 63 (.tmp 52) (.const (.pointer none)) 63)⟩] (some [0,5,6,53])
def ir9_r12:IC:=.reg [⟨some 2,none,false,.mv (.k (.bool false))⟩] (some [2])
def ir9_16:IC:=.seq ir9_r12 .ret
def ir9_17:IC:=.cond (.t 53) ir9_16 .skip
def ir9_18:IC:=.seq ir9_r11 ir9_17
def ir9_r13:IC:=.reg [⟨some 7,none,false,.mv (.k (.int .i64 0))⟩] (some [0,5,6,7])
def ir9_r14:IC:=.reg [⟨some 54,none,false,.mv (.t 7)⟩,
 ⟨some 55,none,false,.mv (.t 0)⟩,
 ⟨some 56,none,false,.len (.t 55)⟩,
 ⟨some 57,none,false,.cmp .lss (.t 54) (.t 56)⟩] (some [0,5,6,7,57])
def ir9_19:IC:=.cond (.t 57) .skip (.exit 2)
def ir9_20:IC:=.seq ir9_r14 ir9_19
def ir9_r16:IC:=.reg [⟨some 60,none,false,.mv (.t 0)⟩,
 ⟨some 61,none,false,.mv (.t 7)⟩,
 ⟨some 62,none,false,.iad 1 (.t 60) (.t 61)⟩,
 ⟨some 63,none,false,.ldc (.t 62)⟩,
 ⟨some 64,none,false,.call (.f 20) [(.t 63)]⟩,
 ⟨some 8,none,false,.mv (.t 64)⟩] (some [0,5,6,7,8])
def ir9_r17:IC:=.reg [⟨some 66,none,false,.mv (.t 5)⟩,
 ⟨some 67,none,false,.mv (.t 8)⟩,
 ⟨some 68,none,false,.call (.f 42) [(.t 66),(.t 67)]⟩,
 ⟨some 65,none,false,.mv (.t 68)⟩,
 ⟨some 69,none,false,.ext (.t 65) 0⟩,
 ⟨some 70,none,false,.ext (.t 65) 1⟩,
 ⟨some 9,none,false,.mv (.t 69)⟩,
 ⟨some 10,none,false,.mv (.t 70)⟩] (some [0,5,6,7,8,9,10])
def ir9_r18:IC:=.draw [(⟨some 72,none,false,.lda 3 (.t 6)⟩,false,0,1),
 (⟨some 73,none,false,.mv (.t 0)⟩,false,0,0),
 (⟨some 74,none,false,.mv (.t 7)⟩,false,0,0),
 (⟨some 75,none,false,.iad 1 (.t 73) (.t 74)⟩,false,6,0),
 (⟨some 76,none,false,.ldc (.t 75)⟩,false,14,1),
 (⟨some 77,none,false,.call (.f 43) [(.t 72),(.t 76)]⟩,false,31,1),
 (⟨some 71,none,false,.mv (.t 77)⟩,false,63,0),
 (⟨some 78,none,false,.ext (.t 71) 0⟩,false,127,0),
 (⟨some 79,none,false,.ext (.t 71) 1⟩,false,127,0),
 (⟨some 80,none,false,.ext (.t 71) 2⟩,false,127,0),
 (⟨some 11,none,false,.alloc [(.bool false),(.bool false),(.slice none 0 0)]⟩,false,0,32),
 (⟨none,none,false,.st 3 (.t 11) (.t 78)⟩,true,1279,0),
 (⟨some 12,none,false,.mv (.t 79)⟩,false,3583,0),
 (⟨some 13,none,false,.mv (.t 80)⟩,false,8191,0)] (some [0,5,6,7,8,9,10,11,12,13])
def ir9_r19:IC:=.reg [⟨some 81,none,false,.lda 3 (.t 11)⟩,
 ⟨none,none,false,.st 3 (.t 6) (.t 81)⟩] (some [0,5,6,7,8,9,10,12,13])
def ir9_r20:IC:=.reg [⟨some 14,none,false,.mv (.k (.int .i64 0))⟩] (some [0,5,6,7,8,9,10,12,13,14])
def ir9_r21:IC:=.reg [⟨some 82,none,false,.mv (.t 14)⟩,
 ⟨some 83,none,false,.mv (.t 8)⟩,
 ⟨some 84,none,false,.len (.t 83)⟩,
 ⟨some 85,none,false,.cmp .lss (.t 82) (.t 84)⟩] (some [0,5,6,7,8,9,10,12,13,14,85])
def ir9_21:IC:=.cond (.t 85) .skip (.exit 4)
def ir9_22:IC:=.seq ir9_r21 ir9_21
def ir9_r23:IC:=.reg [⟨some 88,none,false,.mv (.t 8)⟩,
 ⟨some 89,none,false,.mv (.t 14)⟩,
 ⟨some 90,none,false,.iad 1 (.t 88) (.t 89)⟩,
 ⟨some 91,none,false,.ldc (.t 90)⟩,
 ⟨some 92,none,false,.bits .xor (.t 91) (.k (.int .u8 255))⟩,
 ⟨some 93,none,false,.iad 1 (.t 88) (.t 89)⟩,
 ⟨none,none,false,.st 1 (.t 93) (.t 92)⟩] (some [0,5,6,7,8,9,10,12,13,14])
def ir9_23:IC:=.block 5 ir9_r23
def ir9_r22:IC:=.reg [⟨some 86,none,false,.mv (.t 14)⟩,
 ⟨some 87,none,false,.ar .add (.t 86) (.k (.int .i64 1))⟩,
 ⟨some 14,none,false,.mv (.t 87)⟩] (some [0,5,6,7,8,9,10,12,13,14])
def ir9_24:IC:=.seq ir9_23 ir9_r22
def ir9_25:IC:=.seq ir9_22 ir9_24
def ir9_26:IC:=.loop ir9_25
def ir9_27:IC:=.block 4 ir9_26
def ir9_28:IC:=.seq ir9_r20 ir9_27
def ir9_r24:IC:=.draw [(⟨some 94,none,false,.mv (.t 10)⟩,false,0,0),
 (⟨some 95,none,false,.mv (.t 13)⟩,false,0,0),
 (⟨some 96,none,false,.cmp .neq (.t 94) (.t 95)⟩,false,3,0),
 (⟨some 97,none,false,.mv (.t 96)⟩,false,7,0),
 (⟨some 98,some (97,false),false,.mv (.t 9)⟩,false,15,0),
 (⟨some 99,some (97,false),false,.mv (.t 12)⟩,false,15,0),
 (⟨some 100,some (97,false),false,.call (.f 44) [(.t 98),(.t 99)]⟩,true,63,0),
 (⟨some 101,some (97,false),false,.not (.t 100)⟩,false,127,0),
 (⟨some 102,none,false,.pick (.t 97) (.k (.bool true)) (.t 101)⟩,false,255,0),
 (⟨some 103,none,false,.mv (.t 102)⟩,false,511,0),
 (⟨some 104,some (103,false),false,.mv (.t 5)⟩,false,1023,0),
 (⟨some 105,some (103,false),false,.call (.f 45) [(.t 104)]⟩,false,2047,1),
 (⟨some 106,some (103,false),false,.fad 2 (.t 6)⟩,false,1023,0),
 (⟨some 107,some (103,false),false,.ldc (.t 106)⟩,false,5119,2048),
 (⟨some 108,some (103,false),false,.len (.t 107)⟩,false,13311,2048),
 (⟨some 109,some (103,false),false,.cmp .neq (.t 105) (.t 108)⟩,false,32767,0),
 (⟨some 110,none,false,.pick (.t 103) (.k (.bool true)) (.t 109)⟩,false,65535,0)] (some [0,5,6,7,110])
def ir9_r25:IC:=.reg [⟨some 2,none,false,.mv (.k (.bool false))⟩] (some [2])
def ir9_29:IC:=.seq ir9_r25 .ret
def ir9_30:IC:=.cond (.t 110) ir9_29 .skip
def ir9_31:IC:=.seq ir9_r24 ir9_30
def ir9_32:IC:=.seq ir9_28 ir9_31
def ir9_33:IC:=.seq ir9_r19 ir9_32
def ir9_34:IC:=.seq ir9_r18 ir9_33
def ir9_35:IC:=.seq ir9_r17 ir9_34
def ir9_36:IC:=.seq ir9_r16 ir9_35
def ir9_37:IC:=.block 3 ir9_36
def ir9_r15:IC:=.reg [⟨some 58,none,false,.mv (.t 7)⟩,
 ⟨some 59,none,false,.ar .add (.t 58) (.k (.int .i64 1))⟩,
 ⟨some 7,none,false,.mv (.t 59)⟩] (some [0,5,6,7])
def ir9_38:IC:=.seq ir9_37 ir9_r15
def ir9_39:IC:=.seq ir9_20 ir9_38
def ir9_40:IC:=.loop ir9_39
def ir9_41:IC:=.block 2 ir9_40
def ir9_42:IC:=.seq ir9_r13 ir9_41
def ir9_r26:IC:=.reg [⟨some 15,none,false,.mv (.k (.pointer none))⟩] (some [15])
def ir9_r27:IC:=.reg [⟨some 112,none,false,.mv (.t 15)⟩,
 ⟨some 113,none,false,.bsl 1 1 [(.int .u8 0)] [(0,(.k (.int .u8 1)))]⟩,
 ⟨some 114,none,false,.call (.f 42) [(.t 112),(.t 113)]⟩,
 ⟨some 111,none,false,.mv (.t 114)⟩,
 ⟨some 115,none,false,.ext (.t 111) 0⟩,
 ⟨some 116,none,false,.ext (.t 111) 1⟩,
 ⟨some 16,none,false,.mv (.t 115)⟩,
 ⟨some 17,none,false,.mv (.t 116)⟩] (some [15,16,17])
def ir9_r28:IC:=.reg [⟨some 117,none,false,.mv (.t 17)⟩,
 ⟨some 118,none,false,.cmp .eql (.t 117) (.k (.int .i64 1))⟩,
 ⟨some 119,none,false,.mv (.t 118)⟩,
 ⟨some 120,some (119,true),false,.mv (.t 16)⟩,
 ⟨some 121,some (119,true),false,.len (.t 120)⟩,
 ⟨some 122,some (119,true),false,.cmp .eql (.t 121) (.k (.int .i64 0))⟩,
 ⟨some 123,none,false,.pick (.t 119) (.t 122) (.k (.bool false))⟩,
 ⟨some 124,none,false,.mv (.t 123)⟩,
 ⟨some 125,some (124,true),false,.mv (.t 15)⟩,
 ⟨some 126,some (124,true),false,.call (.f 45) [(.t 125)]⟩,
 ⟨some 127,some (124,true),false,.cmp .eql (.t 126) (.k (.int .i64 0))⟩,
 ⟨some 128,none,false,.pick (.t 124) (.t 127) (.k (.bool false))⟩,
 ⟨some 129,none,false,.mv (.t 128)⟩,
 ⟨some 130,some (129,true),false,.call (.f 19) []⟩,
 ⟨some 131,none,false,.pick (.t 129) (.t 130) (.k (.bool false))⟩,
 ⟨some 2,none,false,.mv (.t 131)⟩] (some [2])
def ir9_43:IC:=.seq ir9_r28 .ret
def ir9_44:IC:=.seq ir9_r27 ir9_43
def ir9_45:IC:=.seq ir9_r26 ir9_44
def ir9_46:IC:=.seq ir9_42 ir9_45
def ir9_47:IC:=.seq ir9_18 ir9_46
def ir9_48:IC:=.seq ir9_r10 ir9_47
def ir9_49:IC:=.seq ir9_15 ir9_48
def ir9_50:IC:=.seq ir9_12 ir9_49
def ir9_51:IC:=.seq ir9_r1 ir9_50
def ir9_52:IC:=.seq ir9_r0 ir9_51
def ir9:IC:=ir9_52
theorem fn9:FnIs Tryd.prog 9 ir9 132 [.tmp 2]:=⟨Tryd.f9,Tryd.f9.body.getD .skip,Tryd.func9,by kernel_rfl,by kernel_rfl,by kernel_rfl,by kernel_rfl⟩
theorem wOK_add {m k a b:Nat}:wOKm m (addNews k a b []) = true:=by
 unfold addNews
 split
 ·rename_i h
  simp only [wOKm,List.all_cons,List.all_nil,Bool.and_true,Bool.or_eq_true,decide_eq_true_eq]
  exact .inl (Nat.le_of_lt h)
 ·rfl
section
variable {L0 M:List (Option AObj)} {ps:List PB} {kb kx i k2 bw room n c:Nat} {br:Bool} {wv:Value} {ws xs:List Int}
theorem st_round {Q : AEx → Fr → List Nat → AH → Prop} (I : StI L0 ps kb kx i M br wv ws k2 bw) (hp : ps[i]? = some (xs, room)) (hn : ps.length = n) (hL : L0.length = n + 2) (hB : isB xs) (hkb : kb = L0.length) (hkx : kx = L0.length + 1) (hM : L0.length + 1 < M.length) (hpay : L0[i + 1]? = some (srB xs)) (hrow : L0[n + 1]? = some (some (.cells ⟨pbCells 1 ps, 0, false⟩))) (hsum : sumP ps ≤ 30000) (h0 : L0[0]? = some none) (hn30 : n ≤ 30)
    (q : ∀ M4 br' wv' ws' k2' bw',StI L0 ps kb kx (i + 1) M4 br' wv' ws' k2' bw'→Q .normal (frSt n c kb kx (i + 1)) [] (Hp L0.length M4)) :
    ITri Tryd.prog 132 none L0.length ir9_38 (frSt n c kb kx i) [] (Hp L0.length M) Q:=by
 obtain ⟨M2,M3,br',wv',v,v2,e,ws',R,T1,T2⟩:=st_step I hp hB hkb hkx hM hpay hsum h0
 have hi:=(List.getElem?_eq_some_iff.1 hp).1
 have hg:=pbCells_get (k:=1) hp
 rw [Nat.add_comm] at hg
 simp only at hg
 have hs1:=sumP_take hp
 have hs2:=sumP_le ps (i + 1)
 simp only at hs1
 have m1:M[n + 1]? = some (some (.cells ⟨pbCells 1 ps,0,false⟩)):=by rw [I.old _ (by omega)]; exact hrow
 have m2:M[i + 1]? = some (srB xs):=by rw [I.old _ (by omega)]; exact hpay
 refine ITri.seq ?_
 refine ITri.block ?_
 refine ITri.seq ?_
 refine ITri.reg pok ?_; simp -implicitDefEqProofs (disch:=first|decide|exact of_eq_true (eq_true rfl)|omega|assumption) only [m1,hg, ↓vcD,vcE,↓vcG,vcF,evs,evP,evB,intsOf,fillC,Value.cells,pt,Value.oneCell',reduceIte,reduceCtorEq,Nat.reduceEqDiff,Nat.reduceAdd,Nat.reduceMul,Nat.reduceLT,Nat.reduceBEq,Nat.reduceLeDiff,Nat.reduceSub]
 refine ⟨_,_,ownB_f rfl (by omega) (sees0 rfl (by omega)) (get_hq rfl (by rw [m2]; rfl)),?_⟩
 simp -implicitDefEqProofs (disch:=first|decide|exact of_eq_true (eq_true rfl)|omega|assumption) only [news_c,news_n, ↓vcD,vcE,↓vcG,vcF,evs,evP,evB,intsOf,fillC,Value.cells,pt,Value.oneCell',reduceIte,reduceCtorEq,Nat.reduceEqDiff,Nat.reduceAdd,Nat.reduceMul,Nat.reduceLT,Nat.reduceBEq,Nat.reduceLeDiff,Nat.reduceSub]
 refine ITri.seq ?_
 refine ITri.reg pok ?_; simp -implicitDefEqProofs (disch:=first|decide|exact of_eq_true (eq_true rfl)|omega|assumption) only [↓vcD,vcE,↓vcG,vcF,evs,evP,evB,intsOf,fillC,Value.cells,pt,Value.oneCell',reduceIte,reduceCtorEq,Nat.reduceEqDiff,Nat.reduceAdd,Nat.reduceMul,Nat.reduceLT,Nat.reduceBEq,Nat.reduceLeDiff,Nat.reduceSub]
 refine ⟨_,_,T1,?_⟩
 try simp -implicitDefEqProofs (disch:=first|decide|exact of_eq_true (eq_true rfl)|omega|assumption) only [↓vcD,vcE,↓vcG,vcF,evs,evP,evB,intsOf,fillC,Value.cells,pt,Value.oneCell',reduceIte,reduceCtorEq,Nat.reduceEqDiff,Nat.reduceAdd,Nat.reduceMul,Nat.reduceLT,Nat.reduceBEq,Nat.reduceLeDiff,Nat.reduceSub]
 have b1:M2[n + 1]? = some (some (.cells ⟨pbCells 1 ps,0,false⟩)):=by rw [R.old2 _ (by omega)]; exact hrow
 have b2:=R.box2
 refine ITri.seq ?_
 refine ITri.draw pok ?_; simp -implicitDefEqProofs (disch:=first|decide|exact of_eq_true (eq_true rfl)|omega|assumption) only [b1,b2,hg, ↓vcD,vcE,↓vcG,vcF,evs,evP,evB,intsOf,fillC,Value.cells,pt,Value.oneCell',reduceIte,reduceCtorEq,Nat.reduceEqDiff,Nat.reduceAdd,Nat.reduceMul,Nat.reduceLT,Nat.reduceBEq,Nat.reduceLeDiff,Nat.reduceSub]
 refine ⟨_,_,T2,?_⟩
 have hle3:L0.length≤M3.length:=by
  have:=R.len3
  rw [List.length_append] at this
  omega
 obtain ⟨a',c',rfl⟩:=R.wvl
 try simp -implicitDefEqProofs (disch:=first|decide|exact of_eq_true (eq_true rfl)|omega|assumption) only [↓vcD,vcE,↓vcG,vcF,evs,evP,evB,intsOf,fillC,Value.cells,pt,Value.oneCell',reduceIte,reduceCtorEq,Nat.reduceEqDiff,Nat.reduceAdd,Nat.reduceMul,Nat.reduceLT,Nat.reduceBEq,Nat.reduceLeDiff,Nat.reduceSub]
 refine ⟨wOK_add,?_⟩
 simp -implicitDefEqProofs (disch:=first|decide|exact of_eq_true (eq_true rfl)|omega|assumption) only [apd_get,apd_get0,apd_set0,apd_set,List.length_append,List.append_assoc,Nat.add_assoc,hle3, ↓vcD,vcE,↓vcG,vcF,evs,evP,evB,intsOf,fillC,Value.cells,pt,Value.oneCell',reduceIte,reduceCtorEq,Nat.reduceEqDiff,Nat.reduceAdd,Nat.reduceMul,Nat.reduceLT,Nat.reduceBEq,Nat.reduceLeDiff,Nat.reduceSub]
 obtain ⟨M3b,hb3⟩ : ∃ M3b,M3++[some (AObj.cells ⟨stV br' (.slice a' ws'.length c'),1,false⟩)] = M3b:=⟨_,rfl⟩
 have l3b:M3b.length = M3.length + 1:=by rw [← hb3,List.length_append]; rfl
 have hl1:=R.len3
 rw [List.length_append] at hl1
 have hl1:M.length + 1≤M3.length:=hl1
 have o3b : ∀ j,j < M3.length→M3b[j]? = M3[j]?:=fun j hj=>by rw [← hb3,List.getElem?_append_left hj]
 have y3:M3b[M3.length]? = some (some (AObj.cells ⟨stV br' (.slice a' ws'.length c'),1,false⟩)):=by
  rw [← hb3,List.getElem?_append_right (Nat.le_refl _),Nat.sub_self]
  rfl
 have x3:M3b[kx]? = some (some (AObj.cells ⟨stV br wv,1,false⟩)):=by rw [o3b kx (by omega)]; exact R.box3
 have hkx0:L0.length≤kx:=by omega
 rw [hb3]
 refine ITri.seq ?_
 refine ITri.reg pok ?_; simp -implicitDefEqProofs (disch:=first|decide|exact of_eq_true (eq_true rfl)|omega|assumption) only [x3,y3,hkx0, ↓vcD,vcE,↓vcG,vcF,evs,evP,evB,intsOf,fillC,Value.cells,pt,Value.oneCell',reduceIte,reduceCtorEq,Nat.reduceEqDiff,Nat.reduceAdd,Nat.reduceMul,Nat.reduceLT,Nat.reduceBEq,Nat.reduceLeDiff,Nat.reduceSub]
 obtain ⟨M4,hM4⟩ : ∃ M4,M3b.set kx (some (AObj.cells ⟨stV br' (.slice a' ws'.length c'),1,false⟩)) = M4:=⟨_,rfl⟩
 rw [hM4]
 have l4:M4.length = M3.length + 1:=by rw [← hM4,List.length_set,l3b]
 have o4 : ∀ j,j < M3.length→j≠kx→M4[j]? = M3[j]?:=fun j h1 h2=>by rw [← hM4,List.getElem?_set_ne (by omega),o3b j h1]
 have x4:M4[kx]? = some (some (AObj.cells ⟨stV br' (.slice a' ws'.length c'),1,false⟩)):=by rw [← hM4,List.getElem?_set_self (by omega)]
 have i4:M4[M.length]? = some (opR xs):=by rw [o4 _ (by omega) (by omega)]; exact R.inn
 have hki:L0.length≤M.length:=by omega
 have z0:M4.set M.length (opR (flp xs 0)) = M4:=set_id i4
 refine ITri.seq ?_
 refine ITri.seq ?_
 refine ITri.reg pok ?_; simp -implicitDefEqProofs (disch:=first|decide|exact of_eq_true (eq_true rfl)|omega|assumption) only [↓vcD,vcE,↓vcG,vcF,evs,evP,evB,intsOf,fillC,Value.cells,pt,Value.oneCell',reduceIte,reduceCtorEq,Nat.reduceEqDiff,Nat.reduceAdd,Nat.reduceMul,Nat.reduceLT,Nat.reduceBEq,Nat.reduceLeDiff,Nat.reduceSub]
 refine ITri.block ?_
 refine ITri.loop (fun j:Nat=>[(0,.slice (some ⟨n + 1,0,none⟩) n c),(5,pt kb),(6,pt kx),(7,.int .i64 i),(8,sO M.length xs.length),(9,v),(10,.int .i64 e),(12,v2),(13,.int .i64 e),(14,.int .i64 j)]) (fun _=>[]) (fun j=>Hp L0.length (M4.set M.length (opR (flp xs j)))) (fun j=>j≤xs.length) (fun j=>xs.length - j) 0 (Nat.zero_le _) (by rw [z0]; exact Wk.sub ⟨rfl,rfl,rfl,rfl,rfl,rfl,rfl,rfl,rfl,rfl,trivial⟩) fun j hj=>?_
 have hset:(M4.set M.length (opR (flp xs j)))[M.length]? = some (opR (flp xs j)):=List.getElem?_set_self (by omega)
 refine ITri.seq ?_
 refine ITri.seq ?_
 refine ITri.reg pok ?_; simp -implicitDefEqProofs (disch:=first|decide|exact of_eq_true (eq_true rfl)|omega|assumption) only [↓vcD,vcE,↓vcG,vcF,evs,evP,evB,intsOf,fillC,Value.cells,pt,Value.oneCell',reduceIte,reduceCtorEq,Nat.reduceEqDiff,Nat.reduceAdd,Nat.reduceMul,Nat.reduceLT,Nat.reduceBEq,Nat.reduceLeDiff,Nat.reduceSub]
 refine ITri.condD (by rfl) (fun h3=>?_) (fun h3=>?_)
 ·have hix:j < xs.length:=by omega
  have hif:j < (flp xs j).length:=by rw [flp_len]; exact hix
  have hgj:=getB hif
  rw [flp_nth] at hgj
  have hv:=hB _ (nth_mem hix)
  have hw:writeAt (rows eB (flp xs j)) j [.int .u8 (btI .xor .u8 (nth xs j) 255)] = rows eB (flp xs (j + 1)):=by
   have:=rows_writef (f:=eB) (c:=1) (v:=.int .u8 (btI .xor .u8 (nth xs j) 255)) (btI .xor .u8 (nth xs j) 255) hif (j:=0) (by decide) rfl
   rwa [Nat.mul_one,Nat.add_zero] at this
  have hi1:((j:Int) + 1) = ((j + 1:Nat):Int):=by omega
  refine ITri.skip ?_; simp only [SeqQ_normal,BlkQ_normal]
  refine ITri.seq ?_
  refine ITri.block ?_
  refine ITri.reg pok ?_; simp -implicitDefEqProofs (disch:=first|decide|exact of_eq_true (eq_true rfl)|omega|assumption) only [hset,hgj,hw,rows_len,flp_len,List.set_set,hki, ↓vcD,vcE,↓vcG,vcF,evs,evP,evB,intsOf,fillC,Value.cells,pt,Value.oneCell',reduceIte,reduceCtorEq,Nat.reduceEqDiff,Nat.reduceAdd,Nat.reduceMul,Nat.reduceLT,Nat.reduceBEq,Nat.reduceLeDiff,Nat.reduceSub]
  refine ITri.reg pok ?_; simp -implicitDefEqProofs (disch:=first|decide|exact of_eq_true (eq_true rfl)|omega|assumption) only [hi1, ↓vcD,vcE,↓vcG,vcF,evs,evP,evB,intsOf,fillC,Value.cells,pt,Value.oneCell',reduceIte,reduceCtorEq,Nat.reduceEqDiff,Nat.reduceAdd,Nat.reduceMul,Nat.reduceLT,Nat.reduceBEq,Nat.reduceLeDiff,Nat.reduceSub]
  exact LoopQ.next (j + 1) (by omega) (by omega) (Wk.sub ⟨rfl,rfl,rfl,rfl,rfl,rfl,rfl,rfl,rfl,rfl,trivial⟩)
 refine ITri.exit ?_; try simp -implicitDefEqProofs (disch:=first|decide|exact of_eq_true (eq_true rfl)|omega|assumption) only [↓vcD,vcE,↓vcG,vcF,evs,evP,evB,intsOf,fillC,Value.cells,pt,Value.oneCell',reduceIte,reduceCtorEq,Nat.reduceEqDiff,Nat.reduceAdd,Nat.reduceMul,Nat.reduceLT,Nat.reduceBEq,Nat.reduceLeDiff,Nat.reduceSub]
 generalize hM5:M4.set M.length (opR (flp xs j)) = M5 at *
 have l5:M5.length = M3.length + 1:=by rw [← hM5,List.length_set,l4]
 have o5 : ∀ j,j < M3.length→j≠M.length→j≠kx→M5[j]? = M3[j]?:=fun j h1 h2 h3=>by rw [← hM5,List.getElem?_set_ne (by omega),o4 j h1 h3]
 have x5:M5[kx]? = some (some (AObj.cells ⟨stV br' (.slice a' ws'.length c'),1,false⟩)):=by rw [← hM5,List.getElem?_set_ne (by omega),x4]
 obtain ⟨ka,kc,kk⟩:=R.kbx
 have k5:M5[kb]? = some (strB (.slice ka ws'.length kc) br'):=by rw [o5 kb (by omega) (by omega) (by omega)]; exact kk
 obtain ⟨fs1,fs2,r1,d1,r2,d2,hff,hfl⟩:=R.frs
 rw [List.length_append] at r1 d1 r2 d2
 have mo : ∀ (k:Nat) (o:AObj),M.length + 1≤k→M3[k]? = some (some o)→M5[k]? = some (some o):=fun k o hk ho=>by rw [o5 k (get_lt ho) (by omega) (by omega)]; exact ho
 have hsame:=same_x (wl:=L0.length) (r1.mono mo) (r2.mono mo) (d1.mono fun k xs hk ho=>mo k _ hk ho) (d2.mono fun k xs hk ho=>mo k _ hk ho) hff hfl
 have hrest:=rest_x (wl:=M5.length) (v:=.slice ka ws'.length kc) rfl k5
 have hee:(e = e) = True:=eq_true rfl
 have hi1:((i:Int) + 1) = ((i + 1:Nat):Int):=by omega
 refine ITri.seq ?_
 refine ITri.draw pok ?_; simp -implicitDefEqProofs (disch:=first|decide|exact of_eq_true (eq_true rfl)|omega|assumption) only [decide_true,Bool.not_true, ↓vcD,vcE,↓vcG,vcF,evs,evP,evB,intsOf,fillC,Value.cells,pt,Value.oneCell',reduceIte,reduceCtorEq,Nat.reduceEqDiff,Nat.reduceAdd,Nat.reduceMul,Nat.reduceLT,Nat.reduceBEq,Nat.reduceLeDiff,Nat.reduceSub]
 refine ⟨_,_,hsame,?_⟩
 simp -implicitDefEqProofs (disch:=first|decide|exact of_eq_true (eq_true rfl)|omega|assumption) only [decide_true,Bool.not_true, ↓vcD,vcE,↓vcG,vcF,evs,evP,evB,intsOf,fillC,Value.cells,pt,Value.oneCell',reduceIte,reduceCtorEq,Nat.reduceEqDiff,Nat.reduceAdd,Nat.reduceMul,Nat.reduceLT,Nat.reduceBEq,Nat.reduceLeDiff,Nat.reduceSub]
 refine ⟨_,_,hrest,?_⟩
 simp -implicitDefEqProofs (disch:=first|decide|exact of_eq_true (eq_true rfl)|omega|assumption) only [x5,decide_true,Bool.not_true, ↓vcD,vcE,↓vcG,vcF,evs,evP,evB,intsOf,fillC,Value.cells,pt,Value.oneCell',reduceIte,reduceCtorEq,Nat.reduceEqDiff,Nat.reduceAdd,Nat.reduceMul,Nat.reduceLT,Nat.reduceBEq,Nat.reduceLeDiff,Nat.reduceSub]
 refine ITri.cond (v:=false) rfl (fun h=>by cases h) (fun _=>?_); refine ITri.skip ?_; simp only [SeqQ_normal,BlkQ_normal]
 refine ITri.reg pok ?_; simp -implicitDefEqProofs (disch:=first|decide|exact of_eq_true (eq_true rfl)|omega|assumption) only [hi1, ↓vcD,vcE,↓vcG,vcF,evs,evP,evB,intsOf,fillC,Value.cells,pt,Value.oneCell',reduceIte,reduceCtorEq,Nat.reduceEqDiff,Nat.reduceAdd,Nat.reduceMul,Nat.reduceLT,Nat.reduceBEq,Nat.reduceLeDiff,Nat.reduceSub]
 obtain ⟨k2',bw',I'⟩:=R.next M5 o5 (by omega) x5
 exact q _ _ _ _ _ _ I'
end
end Go.Proofs.YtgjokhodccacoaaDoor
set_option linter.unusedSimpArgs false
set_option linter.unusedVariables false
namespace Go.Proofs.YtgjokhodccacoaaDoor
open Go.RowKit Go.Vm
set_option maxRecDepth 100000
structure St2 where
 i:Nat
 M:List (Option AObj)
 br:Bool
 wv:Value
 ws:List Int
 k2:Nat
 bw:Nat
section
variable {n c:Nat} {ps:List PB} {L0:List (Option AObj)}
theorem streams_r (hn : ps.length = n) (hok : ∀ p ∈ ps, isB p.1) (hL : L0.length = n + 2) (hp : ∀ i p, ps[i]? = some p → L0[i + 1]? = some (srB p.1)) (hr : L0[n + 1]? = some (some (.cells ⟨pbCells 1 ps, 0, false⟩))) (h0 : L0[0]? = some none) (hn30 : n ≤ 30) (hsum : sumP ps ≤ 30000) :
    ITri Tryd.prog 132 none L0.length ir9_48 [(0,.slice (some ⟨n + 1,0,none⟩) n c)] [] (Hp L0.length L0) (EndR Tryd.prog [.tmp 2] L0.length [] (.bool true)):=by
 refine ITri.seq ?_
 refine ITri.reg pok ?_; simp -implicitDefEqProofs (disch:=first|decide|exact of_eq_true (eq_true rfl)|omega|assumption) only [↓vcD,vcE,↓vcG,vcF,evs,evP,evB,intsOf,fillC,Value.cells,pt,Value.oneCell',reduceIte,reduceCtorEq,Nat.reduceEqDiff,Nat.reduceAdd,Nat.reduceMul,Nat.reduceLT,Nat.reduceBEq,Nat.reduceLeDiff,Nat.reduceSub]
 refine ⟨_,_,new_x (Nat.le_refl _),?_⟩
 obtain ⟨L1,hL1⟩ : ∃ L1,L0++[strB (.slice none 0 0) false] = L1:=⟨_,rfl⟩
 have l1:L1.length = L0.length + 1:=by rw [← hL1,List.length_append]; rfl
 have hw1:L0.length≤L1.length:=by omega
 rw [hL1]
 simp -implicitDefEqProofs (disch:=first|decide|exact of_eq_true (eq_true rfl)|omega|assumption) only [apd_get,apd_get0,apd_set0,apd_set,List.length_append,List.append_assoc,Nat.add_assoc,hw1, ↓vcD,vcE,↓vcG,vcF,evs,evP,evB,intsOf,fillC,Value.cells,pt,Value.oneCell',reduceIte,reduceCtorEq,Nat.reduceEqDiff,Nat.reduceAdd,Nat.reduceMul,Nat.reduceLT,Nat.reduceBEq,Nat.reduceLeDiff,Nat.reduceSub]
 obtain ⟨M0,hM0⟩ : ∃ M0:List (Option AObj),L1++[some (.cells ⟨stV false (.slice none 0 0),1,false⟩)] = M0:=⟨_,rfl⟩
 have m0:M0.length = L0.length + 2:=by rw [← hM0,List.length_append,l1]; rfl
 have p0 : ∀ j,j < L0.length→M0[j]? = L0[j]?:=fun j hj=>by rw [← hM0,List.getElem?_append_left (by omega),← hL1,List.getElem?_append_left hj]
 have pb:M0[L0.length]? = some (strB (.slice none 0 0) false):=by
  rw [← hM0,List.getElem?_append_left (by omega),← hL1,List.getElem?_append_right (Nat.le_refl _),Nat.sub_self]
  rfl
 have px:M0[L0.length + 1]? = some (some (.cells ⟨stV false (.slice none 0 0),1,false⟩)):=by
  rw [← hM0,← l1,List.getElem?_append_right (Nat.le_refl _),Nat.sub_self]
  rfl
 rw [hM0,l1]
 refine ITri.seq ?_
 refine ITri.seq ?_
 refine ITri.reg pok ?_; simp -implicitDefEqProofs (disch:=first|decide|exact of_eq_true (eq_true rfl)|omega|assumption) only [↓vcD,vcE,↓vcG,vcF,evs,evP,evB,intsOf,fillC,Value.cells,pt,Value.oneCell',reduceIte,reduceCtorEq,Nat.reduceEqDiff,Nat.reduceAdd,Nat.reduceMul,Nat.reduceLT,Nat.reduceBEq,Nat.reduceLeDiff,Nat.reduceSub]
 refine gen_peq u_pst rfl ?_
 try simp -implicitDefEqProofs (disch:=first|decide|exact of_eq_true (eq_true rfl)|omega|assumption) only [↓vcD,vcE,↓vcG,vcF,evs,evP,evB,intsOf,fillC,Value.cells,pt,Value.oneCell',reduceIte,reduceCtorEq,Nat.reduceEqDiff,Nat.reduceAdd,Nat.reduceMul,Nat.reduceLT,Nat.reduceBEq,Nat.reduceLeDiff,Nat.reduceSub]
 refine ITri.cond (v:=false) rfl (fun h=>by cases h) (fun _=>?_); refine ITri.skip ?_; simp only [SeqQ_normal,BlkQ_normal]
 refine ITri.nameNil (kb:=L0.length) (o:=0) (bb:=⟨[.slice none 0 0,.bool false],1,false⟩) (by rw [pb]; rfl) rfl (Nat.le_refl _) ?_
 obtain ⟨M,hM⟩ : ∃ M,nnAt L0.length 0 ⟨[.slice none 0 0,.bool false],1,false⟩ M0 = M:=⟨_,rfl⟩
 rw [hM]
 unfold nnAt at hM
 have ml:M.length = L0.length + 3:=by rw [← hM,List.length_append,List.length_set,m0]; rfl
 have mo : ∀ j,j < M0.length→j≠L0.length→M[j]? = M0[j]?:=fun j h1 h2=>by
  rw [← hM,List.getElem?_append_left (by rw [List.length_set]; exact h1),List.getElem?_set_ne (by omega)]
 have mb:M[L0.length]? = some (strB (.slice (some ⟨L0.length + 2,0,none⟩) 0 openB) false):=by
  rw [← hM,List.getElem?_append_left (by rw [List.length_set]; omega),List.getElem?_set_self (by omega),m0]
  rfl
 have mr:M[L0.length + 2]? = some (opR []):=by
  rw [← hM,List.getElem?_append_right (by rw [List.length_set]; omega),List.length_set,m0,Nat.sub_self]
  rfl
 have I0:StI L0 ps L0.length (L0.length + 1) 0 M false (.slice none 0 0) [] (L0.length + 2) (L0.length + 3):=by
  refine ⟨fun j hj=>by rw [mo j (by omega) (by omega),p0 j hj],by omega,Nat.zero_le _,(fun x hx=>by cases hx),by rw [mo _ (by omega) (by omega)]; exact px,⟨_,_,rfl⟩,fun _=>⟨⟨Nat.le_refl _,by omega,mb,mr,fun x hx=>by cases hx⟩,⟨⟨_,_,rfl⟩,fun h=>absurd rfl h⟩,by omega⟩,fun h=>by cases h⟩
 refine ITri.seq ?_
 refine ITri.seq ?_
 refine ITri.reg pok ?_; simp -implicitDefEqProofs (disch:=first|decide|exact of_eq_true (eq_true rfl)|omega|assumption) only [↓vcD,vcE,↓vcG,vcF,evs,evP,evB,intsOf,fillC,Value.cells,pt,Value.oneCell',reduceIte,reduceCtorEq,Nat.reduceEqDiff,Nat.reduceAdd,Nat.reduceMul,Nat.reduceLT,Nat.reduceBEq,Nat.reduceLeDiff,Nat.reduceSub]
 refine ITri.block ?_
 refine ITri.loop (fun s:St2=>frSt n c L0.length (L0.length + 1) s.i) (fun _=>[]) (fun s=>Hp L0.length s.M) (fun s=>s.i≤n∧L0.length + 1 < s.M.length∧StI L0 ps L0.length (L0.length + 1) s.i s.M s.br s.wv s.ws s.k2 s.bw) (fun s=>n - s.i) ⟨0,M,false,.slice none 0 0,[],L0.length + 2,L0.length + 3⟩ ⟨Nat.zero_le _,by show _ < M.length; omega,I0⟩ (Wk.sub ⟨rfl,rfl,rfl,rfl,trivial⟩) fun s hs=>?_
 obtain ⟨hsi,hsM,I⟩:=hs
 refine ITri.seq ?_
 refine ITri.seq ?_
 refine ITri.reg pok ?_; simp -implicitDefEqProofs (disch:=first|decide|exact of_eq_true (eq_true rfl)|omega|assumption) only [↓vcD,vcE,↓vcG,vcF,evs,evP,evB,intsOf,fillC,Value.cells,pt,Value.oneCell',reduceIte,reduceCtorEq,Nat.reduceEqDiff,Nat.reduceAdd,Nat.reduceMul,Nat.reduceLT,Nat.reduceBEq,Nat.reduceLeDiff,Nat.reduceSub]
 refine ITri.condD (by rfl) (fun h7=>?_) (fun h7=>?_)
 ·have hi:s.i < ps.length:=by omega
  obtain ⟨p,hpi⟩ : ∃ p,ps[s.i]? = some p:=⟨ps[s.i]'hi,List.getElem?_eq_getElem hi⟩
  obtain ⟨xs,room⟩:=p
  refine ITri.skip ?_; simp only [SeqQ_normal,BlkQ_normal]
  refine ITri.weak (l':=frSt n c L0.length (L0.length + 1) s.i) (ms':=[]) (h':=Hp L0.length s.M) (Wk.sub ⟨rfl,rfl,rfl,rfl,trivial⟩) ?_
  refine st_round I hpi hn hL (hok _ (List.mem_of_getElem? hpi)) rfl rfl hsM (hp _ _ hpi) hr hsum h0 hn30 fun M4 br' wv' ws' k2' bw' I'=>?_
  exact LoopQ.next ⟨s.i + 1,M4,br',wv',ws',k2',bw'⟩ ⟨by show s.i + 1≤n; omega,by
   show L0.length + 1 < M4.length
   exact get_lt I'.box,I'⟩ (by show n - (s.i + 1) < n - s.i; omega) (Wk.sub ⟨rfl,rfl,rfl,rfl,trivial⟩)
 refine ITri.exit ?_; try simp -implicitDefEqProofs (disch:=first|decide|exact of_eq_true (eq_true rfl)|omega|assumption) only [↓vcD,vcE,↓vcG,vcF,evs,evP,evB,intsOf,fillC,Value.cells,pt,Value.oneCell',reduceIte,reduceCtorEq,Nat.reduceEqDiff,Nat.reduceAdd,Nat.reduceMul,Nat.reduceLT,Nat.reduceBEq,Nat.reduceLeDiff,Nat.reduceSub]
 refine ITri.seq ?_
 refine ITri.reg pok ?_; simp -implicitDefEqProofs (disch:=first|decide|exact of_eq_true (eq_true rfl)|omega|assumption) only [↓vcD,vcE,↓vcG,vcF,evs,evP,evB,intsOf,fillC,Value.cells,pt,Value.oneCell',reduceIte,reduceCtorEq,Nat.reduceEqDiff,Nat.reduceAdd,Nat.reduceMul,Nat.reduceLT,Nat.reduceBEq,Nat.reduceLeDiff,Nat.reduceSub]
 refine ITri.seq ?_
 refine ITri.reg pok ?_; simp -implicitDefEqProofs (disch:=first|decide|exact of_eq_true (eq_true rfl)|omega|assumption) only [apd_get,apd_get0,apd_set0,apd_set,List.length_append,List.append_assoc,Nat.add_assoc, ↓vcD,vcE,↓vcG,vcF,evs,evP,evB,intsOf,fillC,Value.cells,pt,Value.oneCell',reduceIte,reduceCtorEq,Nat.reduceEqDiff,Nat.reduceAdd,Nat.reduceMul,Nat.reduceLT,Nat.reduceBEq,Nat.reduceLeDiff,Nat.reduceSub]
 refine ⟨_,_,feed_n,?_⟩
 try simp -implicitDefEqProofs (disch:=first|decide|exact of_eq_true (eq_true rfl)|omega|assumption) only [↓vcD,vcE,↓vcG,vcF,evs,evP,evB,intsOf,fillC,Value.cells,pt,Value.oneCell',reduceIte,reduceCtorEq,Nat.reduceEqDiff,Nat.reduceAdd,Nat.reduceMul,Nat.reduceLT,Nat.reduceBEq,Nat.reduceLeDiff,Nat.reduceSub]
 have hq0:(((0:Nat):Int) = 0) = True:=eq_true rfl
 refine ITri.seq ?_
 refine ITri.reg pok ?_; simp -implicitDefEqProofs (disch:=first|decide|exact of_eq_true (eq_true rfl)|omega|assumption) only [hq0,decide_true, ↓vcD,vcE,↓vcG,vcF,evs,evP,evB,intsOf,fillC,Value.cells,pt,Value.oneCell',reduceIte,reduceCtorEq,Nat.reduceEqDiff,Nat.reduceAdd,Nat.reduceMul,Nat.reduceLT,Nat.reduceBEq,Nat.reduceLeDiff,Nat.reduceSub]
 refine ⟨_,_,rest_n,?_⟩
 simp -implicitDefEqProofs (disch:=first|decide|exact of_eq_true (eq_true rfl)|omega|assumption) only [hq0,decide_true, ↓vcD,vcE,↓vcG,vcF,evs,evP,evB,intsOf,fillC,Value.cells,pt,Value.oneCell',reduceIte,reduceCtorEq,Nat.reduceEqDiff,Nat.reduceAdd,Nat.reduceMul,Nat.reduceLT,Nat.reduceBEq,Nat.reduceLeDiff,Nat.reduceSub]
 refine ⟨_,_,knownT,?_⟩
 try simp -implicitDefEqProofs (disch:=first|decide|exact of_eq_true (eq_true rfl)|omega|assumption) only [↓vcD,vcE,↓vcG,vcF,evs,evP,evB,intsOf,fillC,Value.cells,pt,Value.oneCell',reduceIte,reduceCtorEq,Nat.reduceEqDiff,Nat.reduceAdd,Nat.reduceMul,Nat.reduceLT,Nat.reduceBEq,Nat.reduceLeDiff,Nat.reduceSub]
 refine ITri.ret ?_; exact EndR.plain (by simp) (by rfl) (by rfl) (by rfl)
theorem streams_b (hn : ps.length = n) (hok : ∀ p ∈ ps, isB p.1) (hL : L0.length = n + 2) (hp : ∀ i p, ps[i]? = some p → L0[i + 1]? = some (srB p.1)) (hr : L0[n + 1]? = some (some (.cells ⟨pbCells 1 ps, 0, false⟩))) (h0 : L0[0]? = some none) :
    Fc Tryd.prog 9 [.slice (some ⟨n + 1,0,none⟩) n c] (Hp L0.length L0) (.bool true) (Hp L0.length L0):=by
 refine Fc.intro0 fn9 (by simp) rfl rfl ?_; simp only [argF]
 refine ITri.seq ?_
 refine ITri.reg pok ?_; simp -implicitDefEqProofs (disch:=first|decide|exact of_eq_true (eq_true rfl)|omega|assumption) only [↓vcD,vcE,↓vcG,vcF,evs,evP,evB,intsOf,fillC,Value.cells,pt,Value.oneCell',reduceIte,reduceCtorEq,Nat.reduceEqDiff,Nat.reduceAdd,Nat.reduceMul,Nat.reduceLT,Nat.reduceBEq,Nat.reduceLeDiff,Nat.reduceSub]
 refine ITri.seq ?_
 refine ITri.reg pok ?_; simp -implicitDefEqProofs (disch:=first|decide|exact of_eq_true (eq_true rfl)|omega|assumption) only [↓vcD,vcE,↓vcG,vcF,evs,evP,evB,intsOf,fillC,Value.cells,pt,Value.oneCell',reduceIte,reduceCtorEq,Nat.reduceEqDiff,Nat.reduceAdd,Nat.reduceMul,Nat.reduceLT,Nat.reduceBEq,Nat.reduceLeDiff,Nat.reduceSub]
 refine ITri.seq ?_
 refine ITri.seq ?_
 refine ITri.reg pok ?_; simp -implicitDefEqProofs (disch:=first|decide|exact of_eq_true (eq_true rfl)|omega|assumption) only [↓vcD,vcE,↓vcG,vcF,evs,evP,evB,intsOf,fillC,Value.cells,pt,Value.oneCell',reduceIte,reduceCtorEq,Nat.reduceEqDiff,Nat.reduceAdd,Nat.reduceMul,Nat.reduceLT,Nat.reduceBEq,Nat.reduceLeDiff,Nat.reduceSub]
 refine ITri.block ?_
 refine ITri.loop (fun i:Nat=>[(0,.slice (some ⟨n + 1,0,none⟩) n c),(3,.int .i64 (sumP (ps.take i):Nat)),(4,.int .i64 i)]) (fun _=>[]) (fun _=>Hp L0.length L0) (fun i=>i≤n∧i≤31∧sumP (ps.take i)≤10100 * i) (fun i=>n - i) 0 ⟨Nat.zero_le _,Nat.zero_le _,Nat.zero_le _⟩ (Wk.sub ⟨rfl,rfl,rfl,trivial⟩) fun i hi=>?_
 obtain ⟨i1,i2,i3⟩:=hi
 refine ITri.seq ?_
 refine ITri.seq ?_
 by_cases hgo:i < n∧i < 31
 ·obtain ⟨g1,g2⟩:=hgo
  have g1' : (i:Int) < n:=by omega
  have g2' : (i:Int) < 31:=by omega
  obtain ⟨p,hpi⟩ : ∃ p,ps[i]? = some p:=⟨ps[i]'(by omega),List.getElem?_eq_getElem (by omega)⟩
  obtain ⟨xs,room⟩:=p
  have hg:=pbCells_get (k:=1) hpi
  have hst:=sumP_take hpi
  rw [Nat.add_comm] at hg
  simp only at hg hst
  have hi1:(i:Int) + 1 = ((i + 1:Nat):Int):=by omega
  refine ITri.reg pok ?_; simp -implicitDefEqProofs (disch:=first|decide|exact of_eq_true (eq_true rfl)|omega|assumption) only [g1',g2',decide_true, ↓vcD,vcE,↓vcG,vcF,evs,evP,evB,intsOf,fillC,Value.cells,pt,Value.oneCell',reduceIte,reduceCtorEq,Nat.reduceEqDiff,Nat.reduceAdd,Nat.reduceMul,Nat.reduceLT,Nat.reduceBEq,Nat.reduceLeDiff,Nat.reduceSub]
  refine ITri.cond (v:=true) rfl (fun _=>?_) (fun h=>by cases h)
  refine ITri.skip ?_; simp only [SeqQ_normal,BlkQ_normal]
  refine ITri.seq ?_
  refine ITri.block ?_
  refine ITri.seq ?_
  by_cases hlen:xs.length≤10100
  ·have hs1 : IntKind.i64.wrap (((sumP (ps.take i) : Nat) : Int) + (xs.length : Nat)) = ((sumP (ps.take (i + 1)) : Nat) : Int) := by
     rw [wrap_inR (by rw [inR_i64]; omega)]
     omega
   have hlen' : ¬ (10100:Int) < xs.length:=by omega
   refine ITri.reg pok ?_; simp -implicitDefEqProofs (disch:=first|decide|exact of_eq_true (eq_true rfl)|omega|assumption) only [hr,hg,hs1, ↓vcD,vcE,↓vcG,vcF,evs,evP,evB,intsOf,fillC,Value.cells,pt,Value.oneCell',reduceIte,reduceCtorEq,Nat.reduceEqDiff,Nat.reduceAdd,Nat.reduceMul,Nat.reduceLT,Nat.reduceBEq,Nat.reduceLeDiff,Nat.reduceSub]
   refine ITri.seq ?_
   refine ITri.reg pok ?_; simp -implicitDefEqProofs (disch:=first|decide|exact of_eq_true (eq_true rfl)|omega|assumption) only [hr,hg,hlen',decide_false, ↓vcD,vcE,↓vcG,vcF,evs,evP,evB,intsOf,fillC,Value.cells,pt,Value.oneCell',reduceIte,reduceCtorEq,Nat.reduceEqDiff,Nat.reduceAdd,Nat.reduceMul,Nat.reduceLT,Nat.reduceBEq,Nat.reduceLeDiff,Nat.reduceSub]
   refine ITri.cond (v:=false) rfl (fun h=>by cases h) (fun _=>?_); refine ITri.skip ?_; simp only [SeqQ_normal,BlkQ_normal]
   refine ITri.reg pok ?_; simp -implicitDefEqProofs (disch:=first|decide|exact of_eq_true (eq_true rfl)|omega|assumption) only [hi1, ↓vcD,vcE,↓vcG,vcF,evs,evP,evB,intsOf,fillC,Value.cells,pt,Value.oneCell',reduceIte,reduceCtorEq,Nat.reduceEqDiff,Nat.reduceAdd,Nat.reduceMul,Nat.reduceLT,Nat.reduceBEq,Nat.reduceLeDiff,Nat.reduceSub]
   exact LoopQ.next (i + 1) ⟨by omega,by omega,by omega⟩ (by omega) (Wk.sub ⟨rfl,rfl,rfl,trivial⟩)
  ·have hlen' : (10100:Int) < xs.length:=by omega
   refine ITri.reg pok ?_; simp -implicitDefEqProofs (disch:=first|decide|exact of_eq_true (eq_true rfl)|omega|assumption) only [hr,hg, ↓vcD,vcE,↓vcG,vcF,evs,evP,evB,intsOf,fillC,Value.cells,pt,Value.oneCell',reduceIte,reduceCtorEq,Nat.reduceEqDiff,Nat.reduceAdd,Nat.reduceMul,Nat.reduceLT,Nat.reduceBEq,Nat.reduceLeDiff,Nat.reduceSub]
   refine ITri.seq ?_
   refine ITri.reg pok ?_; simp -implicitDefEqProofs (disch:=first|decide|exact of_eq_true (eq_true rfl)|omega|assumption) only [hr,hg,hlen',decide_true, ↓vcD,vcE,↓vcG,vcF,evs,evP,evB,intsOf,fillC,Value.cells,pt,Value.oneCell',reduceIte,reduceCtorEq,Nat.reduceEqDiff,Nat.reduceAdd,Nat.reduceMul,Nat.reduceLT,Nat.reduceBEq,Nat.reduceLeDiff,Nat.reduceSub]
   refine ITri.cond (v:=true) rfl (fun _=>?_) (fun h=>by cases h)
   refine ITri.seq ?_
   refine ITri.reg pok ?_; simp -implicitDefEqProofs (disch:=first|decide|exact of_eq_true (eq_true rfl)|omega|assumption) only [↓vcD,vcE,↓vcG,vcF,evs,evP,evB,intsOf,fillC,Value.cells,pt,Value.oneCell',reduceIte,reduceCtorEq,Nat.reduceEqDiff,Nat.reduceAdd,Nat.reduceMul,Nat.reduceLT,Nat.reduceBEq,Nat.reduceLeDiff,Nat.reduceSub]
   refine ⟨_,_,knownT,?_⟩
   try simp -implicitDefEqProofs (disch:=first|decide|exact of_eq_true (eq_true rfl)|omega|assumption) only [↓vcD,vcE,↓vcG,vcF,evs,evP,evB,intsOf,fillC,Value.cells,pt,Value.oneCell',reduceIte,reduceCtorEq,Nat.reduceEqDiff,Nat.reduceAdd,Nat.reduceMul,Nat.reduceLT,Nat.reduceBEq,Nat.reduceLeDiff,Nat.reduceSub]
   refine ITri.ret ?_; exact EndR.plain (by simp) (by rfl) (by rfl) (by rfl)
 refine ITri.one [(0,.slice (some ⟨n + 1,0,none⟩) n c),(3,.int .i64 (sumP (ps.take i):Nat)),(4,.int .i64 i),(25,.bool false)] ?_ ?_
 ·by_cases g1:i < n
  ·have g1' : (i:Int) < n:=by omega
   have g2' : ¬ (i:Int) < 31:=by omega
   refine ITri.reg pok ?_; simp -implicitDefEqProofs (disch:=first|decide|exact of_eq_true (eq_true rfl)|omega|assumption) only [g1',g2',decide_true,decide_false, ↓vcD,vcE,↓vcG,vcF,evs,evP,evB,intsOf,fillC,Value.cells,pt,Value.oneCell',reduceIte,reduceCtorEq,Nat.reduceEqDiff,Nat.reduceAdd,Nat.reduceMul,Nat.reduceLT,Nat.reduceBEq,Nat.reduceLeDiff,Nat.reduceSub]
  ·have g1' : ¬ (i:Int) < n:=by omega
   refine ITri.reg pok ?_; simp -implicitDefEqProofs (disch:=first|decide|exact of_eq_true (eq_true rfl)|omega|assumption) only [g1',decide_false, ↓vcD,vcE,↓vcG,vcF,evs,evP,evB,intsOf,fillC,Value.cells,pt,Value.oneCell',reduceIte,reduceCtorEq,Nat.reduceEqDiff,Nat.reduceAdd,Nat.reduceMul,Nat.reduceLT,Nat.reduceBEq,Nat.reduceLeDiff,Nat.reduceSub]
 refine ITri.cond (v:=false) rfl (fun h=>by cases h) (fun _=>?_)
 refine ITri.exit ?_; try simp -implicitDefEqProofs (disch:=first|decide|exact of_eq_true (eq_true rfl)|omega|assumption) only [↓vcD,vcE,↓vcG,vcF,evs,evP,evB,intsOf,fillC,Value.cells,pt,Value.oneCell',reduceIte,reduceCtorEq,Nat.reduceEqDiff,Nat.reduceAdd,Nat.reduceMul,Nat.reduceLT,Nat.reduceBEq,Nat.reduceLeDiff,Nat.reduceSub]
 refine ITri.seq ?_
 refine ITri.seq ?_
 by_cases h30:n≤30
 ·obtain rfl:i = n:=by omega
  have hte:ps.take i = ps:=List.take_of_length_le (by omega)
  rw [hte]
  have g1 : ¬ (30:Int) < i:=by omega
  refine ITri.reg pok ?_; simp -implicitDefEqProofs (disch:=first|decide|exact of_eq_true (eq_true rfl)|omega|assumption) only [g1,decide_false, ↓vcD,vcE,↓vcG,vcF,evs,evP,evB,intsOf,fillC,Value.cells,pt,Value.oneCell',reduceIte,reduceCtorEq,Nat.reduceEqDiff,Nat.reduceAdd,Nat.reduceMul,Nat.reduceLT,Nat.reduceBEq,Nat.reduceLeDiff,Nat.reduceSub]
  refine ITri.condD (by rfl) (fun h3=>?_) (fun h3=>?_)
  ·refine ITri.seq ?_
   refine ITri.reg pok ?_; simp -implicitDefEqProofs (disch:=first|decide|exact of_eq_true (eq_true rfl)|omega|assumption) only [↓vcD,vcE,↓vcG,vcF,evs,evP,evB,intsOf,fillC,Value.cells,pt,Value.oneCell',reduceIte,reduceCtorEq,Nat.reduceEqDiff,Nat.reduceAdd,Nat.reduceMul,Nat.reduceLT,Nat.reduceBEq,Nat.reduceLeDiff,Nat.reduceSub]
   refine ⟨_,_,knownT,?_⟩
   try simp -implicitDefEqProofs (disch:=first|decide|exact of_eq_true (eq_true rfl)|omega|assumption) only [↓vcD,vcE,↓vcG,vcF,evs,evP,evB,intsOf,fillC,Value.cells,pt,Value.oneCell',reduceIte,reduceCtorEq,Nat.reduceEqDiff,Nat.reduceAdd,Nat.reduceMul,Nat.reduceLT,Nat.reduceBEq,Nat.reduceLeDiff,Nat.reduceSub]
   refine ITri.ret ?_; exact EndR.plain (by simp) (by rfl) (by rfl) (by rfl)
  refine ITri.skip ?_; simp only [SeqQ_normal,BlkQ_normal]
  exact ITri.weak (l':=[(0,.slice (some ⟨i + 1,0,none⟩) i c)]) (ms':=[]) (h':=Hp L0.length L0) (Wk.sub ⟨rfl,trivial⟩) (streams_r hn hok hL hp hr h0 h30 (by omega))
 ·have g1:(30:Int) < n:=by omega
  refine ITri.reg pok ?_; simp -implicitDefEqProofs (disch:=first|decide|exact of_eq_true (eq_true rfl)|omega|assumption) only [g1,decide_true, ↓vcD,vcE,↓vcG,vcF,evs,evP,evB,intsOf,fillC,Value.cells,pt,Value.oneCell',reduceIte,reduceCtorEq,Nat.reduceEqDiff,Nat.reduceAdd,Nat.reduceMul,Nat.reduceLT,Nat.reduceBEq,Nat.reduceLeDiff,Nat.reduceSub]
  refine ITri.cond (v:=true) rfl (fun _=>?_) (fun h=>by cases h)
  refine ITri.seq ?_
  refine ITri.reg pok ?_; simp -implicitDefEqProofs (disch:=first|decide|exact of_eq_true (eq_true rfl)|omega|assumption) only [↓vcD,vcE,↓vcG,vcF,evs,evP,evB,intsOf,fillC,Value.cells,pt,Value.oneCell',reduceIte,reduceCtorEq,Nat.reduceEqDiff,Nat.reduceAdd,Nat.reduceMul,Nat.reduceLT,Nat.reduceBEq,Nat.reduceLeDiff,Nat.reduceSub]
  refine ⟨_,_,knownT,?_⟩
  try simp -implicitDefEqProofs (disch:=first|decide|exact of_eq_true (eq_true rfl)|omega|assumption) only [↓vcD,vcE,↓vcG,vcF,evs,evP,evB,intsOf,fillC,Value.cells,pt,Value.oneCell',reduceIte,reduceCtorEq,Nat.reduceEqDiff,Nat.reduceAdd,Nat.reduceMul,Nat.reduceLT,Nat.reduceBEq,Nat.reduceLeDiff,Nat.reduceSub]
  refine ITri.ret ?_; exact EndR.plain (by simp) (by rfl) (by rfl) (by rfl)
theorem streams_c (n c : Nat) (ps : List PB) (hn : ps.length = n) (hok : ∀ p ∈ ps, isB p.1) :
    Fc Tryd.prog 9 [.slice (some ⟨n + 1,0,none⟩) n c] (Hp (n + 2) (pbMem ps)) (.bool true) (Hp (n + 2) (pbMem ps)):=by
 have h:=streams_b (c:=c) (L0:=pbMem ps) hn hok (by rw [pbMem_len,hn]) (fun i f hf=>pbMem_pay hf) (by rw [← hn]; exact pbMem_row ps) (pbMem_0 ps)
 rw [pbMem_len,hn] at h
 exact h
end
end Go.Proofs.YtgjokhodccacoaaDoor
