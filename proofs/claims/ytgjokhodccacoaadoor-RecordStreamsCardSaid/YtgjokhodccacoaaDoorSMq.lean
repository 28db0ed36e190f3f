import Derived.Test.YtgjokhodccacoaaDoorSMp
set_option linter.unusedSimpArgs false
set_option linter.unusedVariables false
namespace Go.Vm
open Go Go.RowKit
section
variable {P:Program} {nt b:Nat} {rd:Option Nat} {t:Tr Value} {ms:List Nat} {h:AH} {ι:Type}
def WkF (nt b:Nat) (rd:Option Nat) (t:Tr Value) (ms:List Nat) (h:AH) (T:ι→Tr Value) (M:ι→List Nat) (H:ι→AH) (I:ι→Prop):Prop :=
 ∀ w0 φ κ w a rc,b≤h.next→Rel w0 φ κ h w→RdOK φ h.N rd rc→MsOK h.N ms→ARel φ κ h.N nt t (mkD φ rc ms) a →
  ∃ i,I i∧∃ φ' κ',Stb b w0 φ κ h φ' κ' (H i) w∧RdOK φ' (H i).N rd rc∧MsOK (H i).N (M i)∧ARel φ' κ' (H i).N nt (T i) (mkD φ' rc (M i)) a
theorem Tri.weakF {c:Code} {Q:AEx→Tr Value→List Nat→AH→Prop} {T:ι→Tr Value} {M:ι→List Nat} {H:ι→AH} {I:ι→Prop} (W:WkF nt b rd t ms h T M H I) (B : ∀ i,I i→Tri P nt rd b c (T i) (M i) (H i) Q):Tri P nt rd b c t ms h Q:=by
 intro K rc w0 φ κ w a hb R D M0 A hk
 obtain ⟨i,hi,φ1,κ1,S1,D1,M1,A1⟩:=W w0 φ κ w a rc hb R D M0 A
 exact B i hi K rc w0 φ1 κ1 w a S1.next S1.rel D1 M1 A1 fun e t2 ms2 h2 φ2 κ2 w2 a2 q2 S2 D2 M2 A2=>hk e t2 ms2 h2 φ2 κ2 w2 a2 q2 (S1.trans S2) D2 M2 A2
theorem ITri.weakF {ic:IC} {l:Fr} {Q:AEx→Fr→List Nat→AH→Prop} {S:ι→Fr} {M:ι→List Nat} {H:ι→AH} {I:ι→Prop} (W:WkF nt b rd (trOf l) ms h (fun i=>trOf (S i)) M H I) (B : ∀ i,I i→ITri P nt rd b ic (S i) (M i) (H i) Q):ITri P nt rd b ic l ms h Q :=
 fun c hc=>Tri.weakF W fun i hi=>B i hi c hc
end
theorem N_len {wl:Nat} {L L' : List (Option AObj)} (h:L'.length = L.length):(Hp wl L').N = (Hp wl L).N:=by
 funext j
 show ((decide (j < L'.length) && _) = true) = ((decide (j < L.length) && _) = true)
 rw [h]
 rfl
theorem N_lt {wl:Nat} {L:List (Option AObj)} {j:Nat}:(Hp wl L).N j↔j < L.length:=by
 show (Hq wl [] L).sees j = true↔_
 unfold AH.sees
 simp [Hq]
 exact decide_eq_true_iff
theorem entOK_one {φ:Nat→Nat×Nat} {κ:Nat→Nat} {N:Nat→Prop} {w:World} {j o:Nat} {bb:Blk} {u v:Value} (E:entOK φ κ N w j (.cells bb)) (hc:bb.cells[o]? = some u) (hr:ren φ κ v = ren φ κ u) (hv:okV N κ v):entOK φ κ N w j (.cells ⟨bb.cells.set o v,bb.esz,bb.opn⟩):=by
 refine ⟨fun e=>?_,fun e=>?_⟩
 ·have:=E.1 e
  rw [this] at hc
  cases hc
 ·obtain ⟨c,el,fz,h1,hz,h2,h3,h4,h5⟩:=E.2 e
  refine ⟨c,el,fz,h1,hz,?_,fun i x hx=>?_,fun x hx=>?_,fun ho=>?_⟩
  ·show _ + (bb.cells.set o v).length≤_
   rw [List.length_set]; exact h2
  ·have hx' : (bb.cells.set o v)[i]? = some x:=hx
   rw [List.getElem?_set] at hx'
   by_cases hi:o = i
   ·subst hi
    rw [if_pos rfl] at hx'
    split at hx'
    ·injection hx' with hx'
     subst hx'
     rw [hr]
     exact h3 _ _ hc
    ·cases hx'
   ·rw [if_neg hi] at hx'
    exact h3 _ _ hx'
  ·rcases List.mem_or_eq_of_mem_set hx with hx|rfl
   ·exact h4 x hx
   ·exact hv
  ·have:=h5 ho
   simp only [List.length_set]
   exact this
theorem ITri.kill {P:Program} {nt b wl k:Nat} {rd:Option Nat} {ic:IC} {l:Fr} {ms:List Nat} {L:List (Option AObj)} {Q:AEx→Fr→List Nat→AH→Prop} (hk:wl≤k) (B:ITri P nt rd b ic l ms (Hp wl (L.set k none)) Q):ITri P nt rd b ic l ms (Hp wl L) Q:=by
 refine ITri.weakF (ι:=Unit) (S:=fun _=>l) (M:=fun _=>ms) (H:=fun _=>Hp wl (L.set k none)) (I:=fun _=>True) ?_ fun _ _=>B
 intro w0 φ κ w a rc hb R D M A
 have hlen:(L.set k none).length = L.length:=by simp
 have hget : ∀ j ob,(Hp wl (L.set k none)).get j = some ob→(Hp wl L).get j = some ob:=by
  intro j ob g
  rw [Hp_get] at g ⊢
  rw [List.getElem?_set] at g
  split at g
  ·split at g <;> cases g
  ·exact g
 have hN:(Hp wl (L.set k none)).N = (Hp wl L).N:=N_len hlen
 have S:Step w0 φ κ (Hp wl L) φ κ (Hp wl (L.set k none)) w:=by
  refine ⟨fun j hj=>⟨rfl,rfl⟩,⟨R.below,(fun p hp=>by cases hp),?_,fun j ob g=>?_,fun j ob g hr hj=>R.own j ob (hget j ob g) hr hj,fun j j' ob ob' g g' hr hr' hj e=>R.inj j j' ob ob' (hget j ob g) (hget j' ob' g') hr hr' hj e⟩,?_,rfl,rfl,fun j hj=>?_⟩
  ·show wl≤(L.set k none).length
   rw [hlen]; exact R.wl
  ·rw [hN]
   exact R.ent j ob (hget j ob g)
  ·show L.length≤(L.set k none).length
   rw [hlen]; exact Nat.le_refl _
  ·show (trL (L.set k none)).get j = (trL L).get j
   have hj' : j < wl:=hj
   rw [trL_get,trL_get,List.getElem?_set_ne (by omega)]
 obtain ⟨m1,m2⟩:=M.step S
 refine ⟨(),trivial,φ,κ,Stb.of S hb,D.step S,m1,?_⟩
 have:=A.step S
 rw [m2]
 exact this
end Go.Vm
