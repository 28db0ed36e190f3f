import Derived.Test.YtgjokhodccacoaaDoorSMq
set_option linter.unusedSimpArgs false
set_option linter.unusedVariables false
namespace Go.Vm
open Go Go.RowKit
theorem empty_cases {φ:Nat→Nat×Nat} {κ:Nat→Nat} {k:Nat}:ren φ κ (.slice (some ⟨k,0,none⟩) 0 openB) = .slice none 0 0∨∃ (a:Addr) (C:Nat),ren φ κ (.slice (some ⟨k,0,none⟩) 0 openB) = .slice (some a) 0 C:=by
 simp only [ren]
 by_cases h0:κ k = 0
 ·rw [if_pos h0]
  cases hd:dec (φ k).1 with
  | none=>exact .inl rfl
  | some a=>exact .inr ⟨a,0,rfl⟩
 ·rw [if_neg h0]
  exact .inr ⟨_,_,rfl⟩
theorem ITri.nilsplit {P : Program} {nt b wl d k : Nat} {rd : Option Nat} {ic : IC} {l l1 : Fr} {l2 : Option Nat → Fr} {ms : List Nat} {L : List (Option AObj)} {Q : AEx → Fr → List Nat → AH → Prop}
    (hl:lk l d = some (.slice (some ⟨k,0,none⟩) 0 openB))
    (h1 : ∀ e v,lk l1 e = some v→(e = d∧v = .slice none 0 0)∨lk l e = some v)
    (h2 : ∀ s e v,lk (l2 s) e = some v→(e = d∧v = .slice (some ⟨L.length,0,s⟩) 0 (openB + 1))∨lk l e = some v)
    (B1:ITri P nt rd b ic l1 ms (Hp wl L) Q) (B2 : ∀ s,ITri P nt rd b ic (l2 s) ms (Hp wl (L++[none])) Q):ITri P nt rd b ic l ms (Hp wl L) Q:=by
 refine ITri.weakF (ι:=Option (Option Nat)) (S:=fun i=>match i with|none=>l1|some s=>l2 s) (M:=fun _=>ms) (H:=fun i=>match i with|none=>Hp wl L|some _=>Hp wl (L++[none])) (I:=fun _=>True) ?_ fun i _=>by
  cases i with
  | none=>exact B1
  | some s=>exact B2 s
 intro w0 φ κ w a rc hb R D M A
 have hd:=A.get d _ (by rw [trOf_get]; exact hl)
 rcases empty_cases (φ:=φ) (κ:=κ) (k:=k) with e|⟨x,C,e⟩
 ·refine ⟨none,trivial,φ,κ,Stb.of R.step hb,D,M,⟨A.defers,A.size,fun e' v hv=>?_,fun e' v hv=>?_⟩⟩
  ·rw [trOf_get] at hv
   rcases h1 e' v hv with ⟨rfl,rfl⟩|hv
   ·rw [hd,e]
    rfl
   ·exact A.get e' v (by rw [trOf_get]; exact hv)
  ·rw [trOf_get] at hv
   rcases h1 e' v hv with ⟨rfl,rfl⟩|hv
   ·trivial
   ·exact A.ok e' v (by rw [trOf_get]; exact hv)
 ·have S:=R.bump (x.block,x.off) (C + 2)
  rw [Hq_bump] at S
  have hN:(Hp wl (L++[none])).N L.length:=N_lt.2 (by simp)
  obtain ⟨m1,m2⟩:=M.step S
  have A':=A.step S
  refine ⟨some x.spot,trivial,_,_,Stb.of S hb,D.step S,m1,?_⟩
  show ARel _ _ _ _ _ (mkD _ rc ms) a
  rw [m2]
  refine ⟨A'.defers,A'.size,fun e' v hv=>?_,fun e' v hv=>?_⟩
  ·rw [trOf_get] at hv
   rcases h2 x.spot e' v hv with ⟨rfl,rfl⟩|hv
   ·rw [hd,e]
    show _ = some (ren (upd φ L.length _) (upd κ L.length _) _)
    simp only [ren,upd_same]
    rw [if_neg (by omega),if_neg (by omega)]
    congr 2
    omega
   ·exact A'.get e' v (by rw [trOf_get]; exact hv)
  ·rw [trOf_get] at hv
   rcases h2 x.spot e' v hv with ⟨rfl,rfl⟩|hv
   ·show okV _ (upd κ L.length _) _
    simp only [okV,upd_same]
    exact ⟨hN,fun h=>absurd h (by omega),fun _=>by omega⟩
   ·exact A'.ok e' v (by rw [trOf_get]; exact hv)
def nnAt (kb o:Nat) (bb:Blk) (L:List (Option AObj)):List (Option AObj) :=
 (L.set kb (some (.cells ⟨bb.cells.set o (.slice (some ⟨L.length,0,none⟩) 0 openB),bb.esz,bb.opn⟩)))++[some (.cells ⟨[],1,true⟩)]
theorem ITri.nameNil {P : Program} {nt b wl kb o : Nat} {rd : Option Nat} {ic : IC} {l : Fr} {ms : List Nat} {L : List (Option AObj)} {bb : Blk} {Q : AEx → Fr → List Nat → AH → Prop} (hB : (L[kb]?).join = some (.cells bb)) (hc : bb.cells[o]? = some (.slice none 0 0)) (hwb : wl ≤ kb)
    (B:ITri P nt rd b ic l ms (Hp wl (nnAt kb o bb L)) Q):ITri P nt rd b ic l ms (Hp wl L) Q:=by
 refine ITri.weakF (ι:=Unit) (S:=fun _=>l) (M:=fun _=>ms) (H:=fun _=>Hp wl (nnAt kb o bb L)) (I:=fun _=>True) ?_ fun _ _=>B
 intro w0 φ κ w a rc hb R D M A
 have Eb:=R.ent kb _ (by rw [Hp_get]; exact hB)
 have hb' : b≤L.length:=hb
 have hlt : ∀ j,(Hp wl L).N j→j < L.length:=fun j h=>N_lt.1 h
 have hlen2:(nnAt kb o bb L).length = L.length + 1:=by simp [nnAt]
 have hkbl:kb < L.length:=by
  rcases Nat.lt_or_ge kb L.length with h|h
  ·exact h
  ·rw [List.getElem?_eq_none h] at hB; cases hB
 let φ':=upd φ L.length (0,0)
 let κ':=upd κ L.length 0
 have hag : ∀ j,j < L.length→φ' j = φ j∧κ' j = κ j:=fun j hj=>⟨upd_ne _ _ (by omega),upd_ne _ _ (by omega)⟩
 have hagN : ∀ j,(Hp wl L).N j→φ' j = φ j∧κ' j = κ j:=fun j hj=>hag j (hlt j hj)
 have hNm : ∀ j,(Hp wl L).N j→(Hp wl (nnAt kb o bb L)).N j:=fun j hj=>N_lt.2 (by rw [hlen2]; have:=hlt j hj; omega)
 have hNk:(Hp wl (nnAt kb o bb L)).N L.length:=N_lt.2 (by rw [hlen2]; omega)
 have move : ∀ j ob,j < L.length→entOK φ κ (Hp wl L).N w j ob→entOK φ' κ' (Hp wl (nnAt kb o bb L)).N w j ob:=fun j ob hj e=>e.move hNm hagN (hag j hj) (fun _=>rfl)
 have hEb := entOK_one (move kb _ hkbl Eb) hc (v := .slice (some ⟨L.length, 0, none⟩) 0 openB) (by
     simp only [ren]
     rw [show κ' L.length = 0 from upd_same _ _ _,show φ' L.length = (0,0) from upd_same _ _ _,if_pos rfl,dec_0]) (by
     simp only [okV]
     rw [show κ' L.length = 0 from upd_same _ _ _]
     exact ⟨hNk,fun _=>⟨trivial,fun e=>absurd e (Nat.lt_irrefl _)⟩,fun _=>by omega⟩)
 have hget : ∀ j ob,(Hp wl (nnAt kb o bb L)).get j = some ob→(j = L.length∧ob = .cells ⟨[],1,true⟩)∨(j < L.length∧(∃ ob0,(Hp wl L).get j = some ob0∧(rl κ' j ob→rl κ j ob0))∧entOK φ' κ' (Hp wl (nnAt kb o bb L)).N w j ob):=by
  intro j ob g
  rw [Hp_get] at g
  unfold nnAt at g
  by_cases hj:j < L.length
  ·rw [List.getElem?_append_left (by simpa using hj),List.getElem?_set] at g
   by_cases hjk:kb = j
   ·subst hjk
    rw [if_pos rfl] at g
    split at g
    ·have g' : some (AObj.cells ⟨bb.cells.set o (.slice (some ⟨L.length,0,none⟩) 0 openB),bb.esz,bb.opn⟩) = some ob:=g
     injection g' with g'
     subst g'
     exact .inr ⟨hj,⟨.cells bb,by rw [Hp_get]; exact hB,fun hr=>by show κ _≠0; rw [← (hag _ hj).2]; exact hr⟩,hEb⟩
    ·rename_i h
     exact absurd hj h
   ·rw [if_neg hjk] at g
    exact .inr ⟨hj,⟨_,by rw [Hp_get]; exact g,fun hr=>rl_congr (hag j hj).2 hr⟩,move j ob hj (R.ent j _ (by rw [Hp_get]; exact g))⟩
  ·rw [List.getElem?_append_right (by simpa using hj)] at g
   simp only [List.length_set] at g
   by_cases hj0:j - L.length = 0
   ·rw [hj0] at g
    have g' : some (AObj.cells ⟨[],1,true⟩) = some ob:=g
    injection g' with g'
    exact .inl ⟨by omega,g'.symm⟩
   ·rw [List.getElem?_eq_none (by show 1≤j - L.length; omega)] at g
    cases g
 have hwl:wl≤L.length:=R.wl
 have hnew : ∀ j ob,j = L.length→ob = .cells ⟨[],1,true⟩→¬ rl κ' j ob:=fun j ob e1 e2 hr=>by
  subst e1 e2
  have hr:κ' L.length≠0:=hr
  exact hr (upd_same _ _ _)
 have S:Step w0 φ κ (Hp wl L) φ' κ' (Hp wl (nnAt kb o bb L)) w:=by
  refine ⟨fun j hj=>?_,⟨R.below,(fun p hp=>by cases hp),?_,fun j ob g=>?_,fun j ob g hr hj=>?_,fun j j' ob ob' g g' hr hr' hj e=>?_⟩,?_,rfl,rfl,fun j hj=>?_⟩
  ·have:j≠L.length:=fun e=>hj (by subst e; exact ⟨Nat.le_refl _,by show _ < (nnAt kb o bb L).length; rw [hlen2]; omega⟩)
   exact ⟨upd_ne _ _ this,upd_ne _ _ this⟩
  ·show wl≤(nnAt kb o bb L).length
   rw [hlen2]; omega
  ·rcases hget j ob g with ⟨rfl,rfl⟩|⟨_,_,h⟩
   ·exact ⟨fun _=>rfl,fun e=>absurd (show κ' L.length = 0 from upd_same _ _ _) e⟩
   ·exact h
  ·rcases hget j ob g with ⟨e1,e2⟩|⟨hjl,⟨ob0,g0,r0⟩,_⟩
   ·exact absurd hr (hnew j ob e1 e2)
   ·rw [(hag j hjl).1]
    exact R.own j ob0 g0 (r0 hr) hj
  ·rcases hget j ob g with ⟨e1,e2⟩|⟨hjl,⟨ob0,g0,r0⟩,_⟩
   ·exact absurd hr (hnew j ob e1 e2)
   rcases hget j' ob' g' with ⟨e1,e2⟩|⟨hjl',⟨ob1,g1,r1⟩,_⟩
   ·exact absurd hr' (hnew j' ob' e1 e2)
   ·rw [(hag j hjl).1,(hag j' hjl').1] at e
    exact R.inj j j' ob0 ob1 g0 g1 (r0 hr) (r1 hr') hj e
  ·show L.length≤(nnAt kb o bb L).length
   rw [hlen2]; omega
  ·show (trL (nnAt kb o bb L)).get j = (trL L).get j
   have hj' : j < wl:=hj
   rw [trL_get,trL_get]
   unfold nnAt
   rw [List.getElem?_append_left (by simp; omega),List.getElem?_set_ne (by omega)]
 obtain ⟨m1,m2⟩:=M.step S
 refine ⟨(),trivial,φ',κ',Stb.of S hb,D.step S,m1,?_⟩
 have:=A.step S
 rw [m2]
 exact this
section
variable {P:Program} {w:Bool} {t u el:TypeId} {s c n:Nat} {l:Fr} {h:AH} {K:Value→AH→Prop} {a:Addr}
theorem gen_eqnilO (hu : P.underlying t = some (.slice el)) (hm : memCmp .eql t = true) (hl : lk l s = some (.slice (some a) n c)) (hc : openB < c) (q : K (.bool false) h) :
    iStep P w (.gen (.binOp .eql t (.tmp s) (.const (.slice none 0 0)) u)) l h K:=by
 refine ⟨_,_,?_,q⟩
 have e1:aEnv (trOf l) (.tmp s) = some (.slice (some a) n c):=by simp only [aEnv,trOf_get,hl]
 have e2:aEnv (trOf l) (.const (.slice none 0 0)) = some (.slice none 0 0):=rfl
 by_cases hn:n≠0∨(c < openB∧c≠0)
 ·simp only [aOp,e1,e2,noAddr,Bool.false_and,Bool.false_eq_true,if_false,aEq,hu,isNil]
  rw [if_pos hn]
 ·simp only [aOp,e1,e2,noAddr,Bool.false_and,Bool.false_eq_true,if_false,aEq,hu,isNil]
  rw [if_neg hn]
  simp only [hm,if_true,aNil,hu,if_pos hc]
end
end Go.Vm
