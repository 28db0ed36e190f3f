import Derived.Test.YtgjokhodccacoaaDoorSMp
set_option linter.unusedSimpArgs false
set_option linter.unusedVariables false
namespace Go.Vm
open Go Go.RowKit
section
variable {P:Program} {nt b:Nat} {rd:Option Nat} {t:Tr Value} {ms:List Nat} {h:AH} {ι:Type}
def WkF (nt b:Nat) (rd:Option Nat) (t:Tr Value) (ms:List Nat) (h:AH) (T:ι→Tr Value) (M:ι→List Nat) (H:ι→AH) (I:ι→Prop):Prop :=
 ∀ w0 φ κ w a rc,b≤h.next→Rel w0 φ κ h w→RdOK φ h.N rd rc→MsOK h.N ms→ARel φ κ h.N nt t (mkD φ rc ms) a →
  ∃ i,I i∧∃ φ' κ',Stb b w0 φ κ h φ' κ' (H i) w∧RdOK φ' (H i).N rd rc∧MsOK (H i).N (M i)∧ARel φ' κ' (H i).N nt (T i) (mkD φ' rc (M i)) a
theorem Tri.weakF {c:Code} {Q:AEx→Tr Value→List Nat→AH→Prop} {T:ι→Tr Value} {M:ι→List Nat} {H:ι→AH} {I:ι→Prop} (W:WkF nt b rd t ms h T M H I) (B : ∀ i,I i→Tri P nt rd b c (T i) (M i) (H i) Q):Tri P nt rd b c t ms h Q:=by
 intro K rc w0 φ κ w a hb R D M0 A hk
 obtain ⟨i,hi,φ1,κ1,S1,D1,M1,A1⟩:=W w0 φ κ w a rc hb R D M0 A
 exact B i hi K rc w0 φ1 κ1 w a S1.next S1.rel D1 M1 A1 fun e t2 ms2 h2 φ2 κ2 w2 a2 q2 S2 D2 M2 A2=>hk e t2 ms2 h2 φ2 κ2 w2 a2 q2 (S1.trans S2) D2 M2 A2
theorem ITri.weakF {ic:IC} {l:Fr} {Q:AEx→Fr→List Nat→AH→Prop} {S:ι→Fr} {M:ι→List Nat} {H:ι→AH} {I:ι→Prop} (W:WkF nt b rd (trOf l) ms h (fun i=>trOf (S i)) M H I) (B : ∀ i,I i→ITri P nt rd b ic (S i) (M i) (H i) Q):ITri P nt rd b ic l ms h Q :=
 fun c hc=>Tri.weakF W fun i hi=>B i hi c hc
end
def clV (k C:Nat):Value→Value
 | .slice (some ⟨k',o,s⟩) n c=>if k' = k∧o = 0∧s = none∧c = openB then .slice (some ⟨k,0,none⟩) n C else .slice (some ⟨k',o,s⟩) n c
 | v=>v
theorem cl_ren {φ:Nat→Nat×Nat} {κ:Nat→Nat} {k C:Nat} (hC:C < openB) (hk:κ k≠0→C = κ k - 1) (v:Value):ren φ κ (clV k C v) = ren φ κ v:=by
 unfold clV
 split
 ·rename_i k' o s n c
  split
  ·rename_i hc
   obtain ⟨rfl,rfl,rfl,rfl⟩:=hc
   simp only [ren]
   by_cases h0:κ k' = 0
   ·rw [if_pos h0,if_pos h0]
   ·rw [if_neg h0,if_neg h0,if_pos hC,if_neg (Nat.lt_irrefl _),Nat.sub_self,Nat.sub_zero,hk h0]
  ·rfl
 ·rfl
theorem cl_ok {κ:Nat→Nat} {N:Nat→Prop} {k C:Nat} (hC:C < openB) (h0:κ k = 0→C = 0) (v:Value) (h:okV N κ v):okV N κ (clV k C v):=by
 unfold clV
 split
 ·rename_i k' o s n c
  split
  ·rename_i hc
   obtain ⟨rfl,rfl,rfl,rfl⟩:=hc
   simp only [okV] at h ⊢
   exact ⟨h.1,fun e=>⟨(h.2.1 e).1,fun _=>h0 e⟩,fun e=>by omega⟩
  ·exact h
 ·exact h
theorem cl_room {κ:Nat→Nat} {N:Nat→Prop} {k n:Nat} (h:okV N κ (.slice (some ⟨k,0,none⟩) n openB)):n≤κ k - 1:=by
 simp only [okV] at h
 have:=h.2.2 (Nat.le_refl _)
 omega
theorem noL_of : ∀ {l:List Value},(∀ v∈l,noAddr v = true)→noAddrL l = true
 | [],_=>rfl
 | a :: r,h=>by
  simp only [noAddrL,Bool.and_eq_true]
  exact ⟨h a (by simp),noL_of fun v hv=>h v (by simp [hv])⟩
theorem close_ent2 {φ : Nat → Nat × Nat} {κ : Nat → Nat} {N : Nat → Prop} {w : World} {k n : Nat} {cs : List Value} (E : entOK φ κ N w k (.cells ⟨cs, 1, true⟩)) (hn : n ≤ κ k - 1) :
    ∃ C xs,C < 9223372036854775808∧noAddrL xs = true∧cs.length + xs.length = C∧n≤C∧(κ k≠0→C = κ k - 1)∧(κ k = 0→C = 0)∧entOK φ κ N w k (.cells ⟨cs++xs,1,false⟩):=by
 by_cases h0:κ k = 0
 ·have hc:cs = []:=E.1 h0
  subst hc
  exact ⟨0,[],by decide,rfl,rfl,by omega,fun e=>absurd h0 e,fun _=>rfl,fun _=>rfl,fun e=>absurd h0 e⟩
 ·obtain ⟨c,el,fz,h1,hz,h2,h3,h4,h5⟩:=E.2 h0
  obtain ⟨q1,q2⟩:=h5 rfl
  obtain ⟨q3,q4,q5⟩:=q2 rfl
  simp only [Nat.mul_one] at q1 q4
  have h2' : (φ k).2 + cs.length≤c.size:=h2
  have q5' : cs.length≤κ k - 1:=q5
  let xs:List Value:=(c.toList.drop ((φ k).2 + cs.length)).take (κ k - 1 - cs.length)
  have hxl:xs.length = κ k - 1 - cs.length:=by
   show ((c.toList.drop _).take _).length = _
   have hcl:c.toList.length = c.size:=by simp
   rw [List.length_take,List.length_drop]
   omega
  have hxg : ∀ (i:Nat) (v:Value),xs[i]? = some v→c[(φ k).2 + cs.length + i]? = some v∧noAddr v = true:=by
   intro i v hi
   have hlt:=(List.getElem?_eq_some_iff.1 hi).1
   have hi' : ((c.toList.drop ((φ k).2 + cs.length)).take (κ k - 1 - cs.length))[i]? = some v:=hi
   rw [List.getElem?_take_of_lt (by omega),List.getElem?_drop] at hi'
   have hc:c[(φ k).2 + cs.length + i]? = some v:=by simpa using hi'
   exact ⟨hc,q4 _ v (by show (φ k).2 + cs.length≤_; omega) (by omega) hc⟩
  have hxa : ∀ v∈xs,noAddr v = true:=fun v hv=>by
   obtain ⟨i,hi⟩:=List.getElem?_of_mem hv
   exact (hxg i v hi).2
  refine ⟨κ k - 1,xs,q3,noL_of hxa,by omega,hn,fun _=>rfl,fun e=>absurd e h0,fun e=>absurd e h0,fun _=>⟨c,el,fz,h1,hz,?_,fun j v hj=>?_,fun v hv=>?_,fun ho=>by cases ho⟩⟩
  ·show (φ k).2 + (cs++xs).length≤c.size
   rw [List.length_append,hxl]
   omega
  ·have hj' : (cs++xs)[j]? = some v:=hj
   by_cases hjc:j < cs.length
   ·rw [List.getElem?_append_left hjc] at hj'
    exact h3 j v hj'
   ·rw [List.getElem?_append_right (by omega)] at hj'
    obtain ⟨a1,a2⟩:=hxg _ v hj'
    rw [ren_noAddr _ _ _ a2,← a1]
    congr 1
    omega
  ·have hv' : v∈cs++xs:=hv
   rcases List.mem_append.1 hv' with hv'|hv'
   ·exact h4 v hv'
   ·exact ok_noAddr _ _ _ (hxa v hv')
def clAt (k kb o n C:Nat) (cs xs:List Value) (bb:Blk) (L:List (Option AObj)):List (Option AObj) :=
 (L.set k (some (.cells ⟨cs++xs,1,false⟩))).set kb (some (.cells ⟨bb.cells.set o (.slice (some ⟨k,0,none⟩) n C),bb.esz,bb.opn⟩))
theorem clAt_len {k kb o n C:Nat} {cs xs:List Value} {bb:Blk} {L:List (Option AObj)}:(clAt k kb o n C cs xs bb L).length = L.length:=by simp [clAt]
theorem set2_get {L : List (Option AObj)} {k kb j : Nat} {x y : Option AObj} {ob : AObj} (h : (((L.set k x).set kb y)[j]?).join = some ob) :
    (j = kb∧y = some ob)∨(j≠kb∧j = k∧x = some ob)∨(j≠kb∧j≠k∧(L[j]?).join = some ob):=by
 rw [List.getElem?_set] at h
 by_cases hj:kb = j
 ·subst hj
  rw [if_pos rfl] at h
  split at h
  ·exact .inl ⟨rfl,h⟩
  ·cases h
 ·rw [if_neg hj,List.getElem?_set] at h
  by_cases hk:k = j
  ·subst hk
   rw [if_pos rfl] at h
   split at h
   ·exact .inr (.inl ⟨fun e=>hj e.symm,rfl,h⟩)
   ·cases h
  ·rw [if_neg hk] at h
   exact .inr (.inr ⟨fun e=>hj e.symm,fun e=>hk e.symm,h⟩)
theorem set2_keep {L:List (Option AObj)} {k kb j wl:Nat} {x y:Option AObj} (hk:wl≤k) (hb:wl≤kb) (hj:j < wl):((L.set k x).set kb y)[j]? = L[j]?:=by
 rw [List.getElem?_set_ne (by omega),List.getElem?_set_ne (by omega)]
theorem N_len {wl:Nat} {L L' : List (Option AObj)} (h:L'.length = L.length):(Hp wl L').N = (Hp wl L).N:=by
 funext j
 show ((decide (j < L'.length) && _) = true) = ((decide (j < L.length) && _) = true)
 rw [h]
 rfl
theorem N_lt {wl:Nat} {L:List (Option AObj)} {j:Nat}:(Hp wl L).N j↔j < L.length:=by
 show (Hq wl [] L).sees j = true↔_
 unfold AH.sees
 simp [Hq]
 exact decide_eq_true_iff
theorem entOK_one {φ:Nat→Nat×Nat} {κ:Nat→Nat} {N:Nat→Prop} {w:World} {j o:Nat} {bb:Blk} {u v:Value} (E:entOK φ κ N w j (.cells bb)) (hc:bb.cells[o]? = some u) (hr:ren φ κ v = ren φ κ u) (hv:okV N κ v):entOK φ κ N w j (.cells ⟨bb.cells.set o v,bb.esz,bb.opn⟩):=by
 refine ⟨fun e=>?_,fun e=>?_⟩
 ·have:=E.1 e
  rw [this] at hc
  cases hc
 ·obtain ⟨c,el,fz,h1,hz,h2,h3,h4,h5⟩:=E.2 e
  refine ⟨c,el,fz,h1,hz,?_,fun i x hx=>?_,fun x hx=>?_,fun ho=>?_⟩
  ·show _ + (bb.cells.set o v).length≤_
   rw [List.length_set]; exact h2
  ·have hx' : (bb.cells.set o v)[i]? = some x:=hx
   rw [List.getElem?_set] at hx'
   by_cases hi:o = i
   ·subst hi
    rw [if_pos rfl] at hx'
    split at hx'
    ·injection hx' with hx'
     subst hx'
     rw [hr]
     exact h3 _ _ hc
    ·cases hx'
   ·rw [if_neg hi] at hx'
    exact h3 _ _ hx'
  ·rcases List.mem_or_eq_of_mem_set hx with hx|rfl
   ·exact h4 x hx
   ·exact hv
  ·have:=h5 ho
   simp only [List.length_set]
   exact this
theorem ITri.closeAt {P : Program} {nt b wl k kb o n : Nat} {rd : Option Nat} {ic : IC} {l : Fr} {ms : List Nat} {L : List (Option AObj)} {cs : List Value} {bb : Blk} {Q : AEx → Fr → List Nat → AH → Prop} (hL : (L[k]?).join = some (.cells ⟨cs, 1, true⟩)) (hB : (L[kb]?).join = some (.cells bb)) (hc : bb.cells[o]? = some (.slice (some ⟨k, 0, none⟩) n openB)) (hne : kb ≠ k) (hwk : wl ≤ k) (hwb : wl ≤ kb)
    (B : ∀ C xs,C < 9223372036854775808→noAddrL xs = true→cs.length + xs.length = C→n≤C→ITri P nt rd b ic l ms (Hp wl (clAt k kb o n C cs xs bb L)) Q):ITri P nt rd b ic l ms (Hp wl L) Q:=by
 refine ITri.weakF (ι:=Nat×List Value) (S:=fun _=>l) (M:=fun _=>ms) (H:=fun i=>Hp wl (clAt k kb o n i.1 cs i.2 bb L)) (I:=fun i=>i.1 < 9223372036854775808∧noAddrL i.2 = true∧cs.length + i.2.length = i.1∧n≤i.1) ?_ fun i hi=>B i.1 i.2 hi.1 hi.2.1 hi.2.2.1 hi.2.2.2
 intro w0 φ κ w a rc hb R D M A
 have E:=R.ent k _ (by rw [Hp_get]; exact hL)
 have Eb:=R.ent kb _ (by rw [Hp_get]; exact hB)
 have hmem:(.slice (some ⟨k,0,none⟩) n openB)∈bb.cells:=List.mem_of_getElem? hc
 have hnk:okV (Hp wl L).N κ (.slice (some ⟨k,0,none⟩) n openB):=by
  obtain ⟨_,_,_,_,_,_,_,h4,_⟩:=Eb.2 (R.nz (by rw [Hp_get]; exact hB) (List.ne_nil_of_mem hmem))
  exact h4 _ hmem
 obtain ⟨C,xs,hC63,hno,hlen,hnC,hk1,hk0,hE⟩:=close_ent2 E (cl_room hnk)
 have hCb:C < openB:=by unfold openB; omega
 have hN:(Hp wl (clAt k kb o n C cs xs bb L)).N = (Hp wl L).N:=N_len clAt_len
 have hv:clV k C (.slice (some ⟨k,0,none⟩) n openB) = .slice (some ⟨k,0,none⟩) n C:=by
  simp [clV]
 have hEb:=entOK_one Eb hc (v:=.slice (some ⟨k,0,none⟩) n C) (by rw [← hv]; exact cl_ren hCb hk1 _) (by rw [← hv]; exact cl_ok hCb hk0 _ hnk)
 have hrl : ∀ j ob,(Hp wl (clAt k kb o n C cs xs bb L)).get j = some ob→∃ ob0,(Hp wl L).get j = some ob0∧(rl κ j ob→rl κ j ob0)∧entOK φ κ (Hp wl L).N w j ob:=by
  intro j ob g
  rw [Hp_get] at g
  rcases set2_get g with ⟨rfl,e⟩|⟨_,rfl,e⟩|⟨_,_,e⟩
  ·injection e with e
   subst e
   exact ⟨.cells bb,by rw [Hp_get]; exact hB,fun hr=>hr,hEb⟩
  ·injection e with e
   subst e
   exact ⟨.cells ⟨cs,1,true⟩,by rw [Hp_get]; exact hL,fun hr=>hr,hE⟩
  ·exact ⟨_,by rw [Hp_get]; exact e,fun hr=>hr,R.ent j _ (by rw [Hp_get]; exact e)⟩
 refine ⟨(C,xs),⟨hC63,hno,hlen,hnC⟩,φ,κ,⟨fun _ _=>⟨rfl,rfl⟩,⟨R.below,(fun p hp=>by cases hp),?_,fun j ob g=>?_,fun j ob g hr hj=>?_,fun j j' ob ob' g g' hr hr' hj e=>?_⟩,?_,rfl,rfl,fun j hj=>?_⟩,?_,?_,?_⟩
 ·show wl≤(clAt k kb o n C cs xs bb L).length
  rw [clAt_len]; exact R.wl
 ·rw [hN]
  exact (hrl j ob g).choose_spec.2.2
 ·obtain ⟨ob0,g0,r0,_⟩:=hrl j ob g
  exact R.own j ob0 g0 (r0 hr) hj
 ·obtain ⟨ob0,g0,r0,_⟩:=hrl j ob g
  obtain ⟨ob1,g1,r1,_⟩:=hrl j' ob' g'
  exact R.inj j j' ob0 ob1 g0 g1 (r0 hr) (r1 hr') hj e
 ·show b≤(clAt k kb o n C cs xs bb L).length
  rw [clAt_len]; exact hb
 ·show (trL (clAt k kb o n C cs xs bb L)).get j = (trL L).get j
  have hj' : j < wl:=hj
  rw [trL_get,trL_get]
  unfold clAt
  rw [set2_keep hwk hwb hj']
 ·rw [hN]; exact D
 ·rw [hN]; exact M
 ·rw [hN]; exact A
def opAt (k kb o n:Nat) (cs:List Value) (bb:Blk) (L:List (Option AObj)):List (Option AObj) :=
 ((L.set k none).set kb (some (.cells ⟨bb.cells.set o (.slice (some ⟨L.length,0,none⟩) n openB),bb.esz,bb.opn⟩)))++[some (.cells ⟨cs,1,true⟩)]
theorem ITri.reopen {P : Program} {nt b wl k kb o n C : Nat} {rd : Option Nat} {ic : IC} {l : Fr} {ms : List Nat} {L : List (Option AObj)} {cs xs : List Value} {bb : Blk} {Q : AEx → Fr → List Nat → AH → Prop} (hL : (L[k]?).join = some (.cells ⟨cs ++ xs, 1, false⟩)) (hno : noAddrL xs = true) (hlen : cs.length + xs.length = C) (hC : C < 9223372036854775808) (hnC : n ≤ C) (hcs : cs ++ xs ≠ []) (hB : (L[kb]?).join = some (.cells bb)) (hc : bb.cells[o]? = some (.slice (some ⟨k, 0, none⟩) n C)) (hne : kb ≠ k) (hwk : wl ≤ k) (hwb : wl ≤ kb)
    (B:ITri P nt rd b ic l ms (Hp wl (opAt k kb o n cs bb L)) Q):ITri P nt rd b ic l ms (Hp wl L) Q:=by
 refine ITri.weakF (ι:=Unit) (S:=fun _=>l) (M:=fun _=>ms) (H:=fun _=>Hp wl (opAt k kb o n cs bb L)) (I:=fun _=>True) ?_ fun _ _=>B
 intro w0 φ κ w a rc hb R D M A
 have gk:(Hp wl L).get k = some (.cells ⟨cs++xs,1,false⟩):=by rw [Hp_get]; exact hL
 have E:=R.ent k _ gk
 have Eb:=R.ent kb _ (by rw [Hp_get]; exact hB)
 have hk0:κ k≠0:=R.nz gk hcs
 have hCb:C < openB:=by unfold openB; omega
 have hb' : b≤L.length:=hb
 have hlt : ∀ j,(Hp wl L).N j→j < L.length:=fun j h=>N_lt.1 h
 have hlen2:(opAt k kb o n cs bb L).length = L.length + 1:=by simp [opAt]
 have hkl:k < L.length:=by
  rcases Nat.lt_or_ge k L.length with h|h
  ·exact h
  ·rw [List.getElem?_eq_none h] at hL; cases hL
 have hkbl:kb < L.length:=by
  rcases Nat.lt_or_ge kb L.length with h|h
  ·exact h
  ·rw [List.getElem?_eq_none h] at hB; cases hB
 let φ':=upd φ L.length (φ k)
 let κ':=upd κ L.length (C + 1)
 have hag : ∀ j,j < L.length→φ' j = φ j∧κ' j = κ j:=fun j hj=>⟨upd_ne _ _ (by omega),upd_ne _ _ (by omega)⟩
 have hagN : ∀ j,(Hp wl L).N j→φ' j = φ j∧κ' j = κ j:=fun j hj=>hag j (hlt j hj)
 have hNm : ∀ j,(Hp wl L).N j→(Hp wl (opAt k kb o n cs bb L)).N j:=fun j hj=>N_lt.2 (by rw [hlen2]; have:=hlt j hj; omega)
 have hNk:(Hp wl (opAt k kb o n cs bb L)).N L.length:=N_lt.2 (by rw [hlen2]; omega)
 have hmem:(.slice (some ⟨k,0,none⟩) n C)∈bb.cells:=List.mem_of_getElem? hc
 have move : ∀ j ob,j < L.length→entOK φ κ (Hp wl L).N w j ob→entOK φ' κ' (Hp wl (opAt k kb o n cs bb L)).N w j ob:=fun j ob hj e=>e.move hNm hagN (hag j hj) (fun _=>rfl)
 have hEb := entOK_one (move kb _ hkbl Eb) hc (v := .slice (some ⟨L.length, 0, none⟩) n openB) (by
     simp only [ren]
     rw [show κ' L.length = C + 1 from upd_same _ _ _,show φ' L.length = φ k from upd_same _ _ _,(hag k hkl).1,(hag k hkl).2,if_neg (Nat.succ_ne_zero _),if_neg hk0,if_neg (Nat.lt_irrefl _),if_pos hCb,Nat.sub_self,Nat.sub_zero,Nat.add_sub_cancel]) (by
     simp only [okV]
     rw [show κ' L.length = C + 1 from upd_same _ _ _]
     exact ⟨hNk,fun e=>absurd e (Nat.succ_ne_zero _),fun _=>by omega⟩)
 have hE:entOK φ' κ' (Hp wl (opAt k kb o n cs bb L)).N w L.length (.cells ⟨cs,1,true⟩):=by
  obtain ⟨c,el,fz,h1,hz,h2,h3,h4,h5⟩:=(move k _ hkl E).2 (by rw [(hag k hkl).2]; exact hk0)
  rw [(hag k hkl).1] at h1 h2 h3
  have h2' : (φ k).2 + (cs++xs).length≤c.size:=h2
  rw [List.length_append] at h2'
  refine ⟨fun e=>?_,fun _=>⟨c,el,fz,by rw [show φ' L.length = φ k from upd_same _ _ _]; exact h1,fun _=>hz (by show (1:Nat)≠0; decide),?_,fun j v hj=>?_,fun v hv=>h4 v (List.mem_append_left _ hv),fun _=>?_⟩⟩
  ·rw [show κ' L.length = C + 1 from upd_same _ _ _] at e; cases e
  ·rw [show φ' L.length = φ k from upd_same _ _ _]
   show (φ k).2 + cs.length≤c.size
   omega
  ·rw [show φ' L.length = φ k from upd_same _ _ _]
   have hj' : cs[j]? = some v:=hj
   exact h3 j v (by show (cs++xs)[j]? = _; rw [List.getElem?_append_left (List.getElem?_eq_some_iff.1 hj').1]; exact hj')
  ·rw [show κ' L.length = C + 1 from upd_same _ _ _,show φ' L.length = φ k from upd_same _ _ _,Nat.add_sub_cancel]
   refine ⟨by show (φ k).2 + C * 1≤c.size; omega,fun _=>⟨hC,fun j v j1 j2 j3=>?_,by show cs.length≤C; omega⟩⟩
   have j1' : (φ k).2 + cs.length≤j:=j1
   have j2' : j < (φ k).2 + C * 1:=j2
   have hx:(cs++xs)[j - (φ k).2]? = some (xs[j - (φ k).2 - cs.length]'(by omega)):=by
    rw [List.getElem?_append_right (by omega)]
    exact List.getElem?_eq_getElem (by omega)
   have:=h3 _ _ hx
   rw [show (φ k).2 + (j - (φ k).2) = j by omega,j3] at this
   injection this with this
   have hn:=noL_all hno _ (List.getElem_mem (l:=xs) (n:=j - (φ k).2 - cs.length) (by omega))
   rw [this,ren_noAddr _ _ _ hn]
   exact hn
 have hget : ∀ j ob,(Hp wl (opAt k kb o n cs bb L)).get j = some ob→(j = L.length∧ob = .cells ⟨cs,1,true⟩)∨(j < L.length∧j≠k∧(∃ ob0,(Hp wl L).get j = some ob0∧(rl κ' j ob→rl κ j ob0))∧entOK φ' κ' (Hp wl (opAt k kb o n cs bb L)).N w j ob):=by
  intro j ob g
  rw [Hp_get] at g
  unfold opAt at g
  by_cases hj:j < L.length
  ·rw [List.getElem?_append_left (by simpa using hj)] at g
   rcases set2_get g with ⟨rfl,e⟩|⟨_,rfl,e⟩|⟨_,hjk,e⟩
   ·injection e with e
    subst e
    exact .inr ⟨hj,hne,⟨.cells bb,by rw [Hp_get]; exact hB,fun hr=>by show κ _≠0; rw [← (hag _ hj).2]; exact hr⟩,hEb⟩
   ·cases e
   ·exact .inr ⟨hj,hjk,⟨_,by rw [Hp_get]; exact e,fun hr=>rl_congr (hag j hj).2 hr⟩,move j ob hj (R.ent j _ (by rw [Hp_get]; exact e))⟩
  ·rw [List.getElem?_append_right (by simpa using hj)] at g
   simp only [List.length_set] at g
   by_cases hj0:j - L.length = 0
   ·rw [hj0] at g
    have g' : some (AObj.cells ⟨cs,1,true⟩) = some ob:=g
    injection g' with g'
    exact .inl ⟨by omega,g'.symm⟩
   ·rw [List.getElem?_eq_none (by show 1≤j - L.length; omega)] at g
    cases g
 have hwl:wl≤L.length:=R.wl
 have S:Step w0 φ κ (Hp wl L) φ' κ' (Hp wl (opAt k kb o n cs bb L)) w:=by
  refine ⟨fun j hj=>?_,⟨R.below,(fun p hp=>by cases hp),?_,fun j ob g=>?_,fun j ob g hr hj=>?_,fun j j' ob ob' g g' hr hr' hj e=>?_⟩,?_,rfl,rfl,fun j hj=>?_⟩
  ·have:j≠L.length:=fun e=>hj (by subst e; exact ⟨Nat.le_refl _,by show _ < (opAt k kb o n cs bb L).length; rw [hlen2]; omega⟩)
   exact ⟨upd_ne _ _ this,upd_ne _ _ this⟩
  ·show wl≤(opAt k kb o n cs bb L).length
   rw [hlen2]; omega
  ·rcases hget j ob g with ⟨rfl,rfl⟩|⟨_,_,_,h⟩
   ·exact hE
   ·exact h
  ·rcases hget j ob g with ⟨rfl,rfl⟩|⟨hjl,_,⟨ob0,g0,r0⟩,_⟩
   ·rw [show φ' L.length = φ k from upd_same _ _ _]
    exact R.own k _ gk hk0 hwk
   ·rw [(hag j hjl).1]
    exact R.own j ob0 g0 (r0 hr) hj
  ·have hj1:wl≤j:=hj
   rcases hget j ob g with ⟨rfl,rfl⟩|⟨hjl,hjk,⟨ob0,g0,r0⟩,_⟩ <;> rcases hget j' ob' g' with ⟨rfl,rfl⟩|⟨hjl',hjk',⟨ob1,g1,r1⟩,_⟩
   ·rfl
   ·rw [show φ' L.length = φ k from upd_same _ _ _,(hag j' hjl').1] at e
    exact absurd (R.inj k j' _ ob1 gk g1 hk0 (r1 hr') hwk e).symm hjk'
   ·rw [show φ' L.length = φ k from upd_same _ _ _,(hag j hjl).1] at e
    exact absurd (R.inj j k ob0 _ g0 gk (r0 hr) hk0 hj e) hjk
   ·rw [(hag j hjl).1,(hag j' hjl').1] at e
    exact R.inj j j' ob0 ob1 g0 g1 (r0 hr) (r1 hr') hj e
  ·show L.length≤(opAt k kb o n cs bb L).length
   rw [hlen2]; omega
  ·show (trL (opAt k kb o n cs bb L)).get j = (trL L).get j
   have hj' : j < wl:=hj
   rw [trL_get,trL_get]
   unfold opAt
   rw [List.getElem?_append_left (by simp; omega),set2_keep hwk hwb hj']
 obtain ⟨m1,m2⟩:=M.step S
 refine ⟨(),trivial,φ',κ',Stb.of S hb,D.step S,m1,?_⟩
 have:=A.step S
 rw [m2]
 exact this
theorem ITri.pad {P:Program} {nt b wl:Nat} {rd:Option Nat} {ic:IC} {l:Fr} {ms:List Nat} {L:List (Option AObj)} {Q:AEx→Fr→List Nat→AH→Prop} (B:ITri P nt rd b ic l ms (Hp wl (L++[none])) Q):ITri P nt rd b ic l ms (Hp wl L) Q:=by
 refine ITri.weakF (ι:=Unit) (S:=fun _=>l) (M:=fun _=>ms) (H:=fun _=>Hp wl (L++[none])) (I:=fun _=>True) ?_ fun _ _=>B
 intro w0 φ κ w a rc hb R D M A
 have hlen:(L++[none]).length = L.length + 1:=by simp
 have hget : ∀ j ob,(Hp wl (L++[none])).get j = some ob→(Hp wl L).get j = some ob:=by
  intro j ob g
  rw [Hp_get] at g ⊢
  rw [List.getElem?_append] at g
  split at g
  ·exact g
  ·by_cases hj:j - L.length = 0
   ·rw [hj] at g; cases g
   ·rw [List.getElem?_eq_none (by show 1≤j - L.length; omega)] at g; cases g
 have hNm : ∀ j,(Hp wl L).N j→(Hp wl (L++[none])).N j:=fun j hj=>N_lt.2 (by rw [hlen]; have:=N_lt.1 hj; omega)
 have hwl:wl≤L.length:=R.wl
 have S:Step w0 φ κ (Hp wl L) φ κ (Hp wl (L++[none])) w:=by
  refine ⟨fun j hj=>⟨rfl,rfl⟩,⟨R.below,(fun p hp=>by cases hp),?_,fun j ob g=>?_,fun j ob g hr hj=>R.own j ob (hget j ob g) hr hj,fun j j' ob ob' g g' hr hr' hj e=>R.inj j j' ob ob' (hget j ob g) (hget j' ob' g') hr hr' hj e⟩,?_,rfl,rfl,fun j hj=>?_⟩
  ·show wl≤(L++[none]).length
   rw [hlen]; omega
  ·exact (R.ent j ob (hget j ob g)).move hNm (fun _ _=>⟨rfl,rfl⟩) ⟨rfl,rfl⟩ (fun _=>rfl)
  ·show L.length≤(L++[none]).length
   rw [hlen]; omega
  ·show (trL (L++[none])).get j = (trL L).get j
   have hj' : j < wl:=hj
   rw [trL_get,trL_get,List.getElem?_append_left (by omega)]
 obtain ⟨m1,m2⟩:=M.step S
 refine ⟨(),trivial,φ,κ,Stb.of S hb,D.step S,m1,?_⟩
 have:=A.step S
 rw [m2]
 exact this
theorem ITri.kill {P:Program} {nt b wl k:Nat} {rd:Option Nat} {ic:IC} {l:Fr} {ms:List Nat} {L:List (Option AObj)} {Q:AEx→Fr→List Nat→AH→Prop} (hk:wl≤k) (B:ITri P nt rd b ic l ms (Hp wl (L.set k none)) Q):ITri P nt rd b ic l ms (Hp wl L) Q:=by
 refine ITri.weakF (ι:=Unit) (S:=fun _=>l) (M:=fun _=>ms) (H:=fun _=>Hp wl (L.set k none)) (I:=fun _=>True) ?_ fun _ _=>B
 intro w0 φ κ w a rc hb R D M A
 have hlen:(L.set k none).length = L.length:=by simp
 have hget : ∀ j ob,(Hp wl (L.set k none)).get j = some ob→(Hp wl L).get j = some ob:=by
  intro j ob g
  rw [Hp_get] at g ⊢
  rw [List.getElem?_set] at g
  split at g
  ·split at g <;> cases g
  ·exact g
 have hN:(Hp wl (L.set k none)).N = (Hp wl L).N:=N_len hlen
 have S:Step w0 φ κ (Hp wl L) φ κ (Hp wl (L.set k none)) w:=by
  refine ⟨fun j hj=>⟨rfl,rfl⟩,⟨R.below,(fun p hp=>by cases hp),?_,fun j ob g=>?_,fun j ob g hr hj=>R.own j ob (hget j ob g) hr hj,fun j j' ob ob' g g' hr hr' hj e=>R.inj j j' ob ob' (hget j ob g) (hget j' ob' g') hr hr' hj e⟩,?_,rfl,rfl,fun j hj=>?_⟩
  ·show wl≤(L.set k none).length
   rw [hlen]; exact R.wl
  ·rw [hN]
   exact R.ent j ob (hget j ob g)
  ·show L.length≤(L.set k none).length
   rw [hlen]; exact Nat.le_refl _
  ·show (trL (L.set k none)).get j = (trL L).get j
   have hj' : j < wl:=hj
   rw [trL_get,trL_get,List.getElem?_set_ne (by omega)]
 obtain ⟨m1,m2⟩:=M.step S
 refine ⟨(),trivial,φ,κ,Stb.of S hb,D.step S,m1,?_⟩
 have:=A.step S
 rw [m2]
 exact this
end Go.Vm
