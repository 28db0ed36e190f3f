import Derived.Test.YtgjokhodccacoaaDoorSRecF2
import Derived.Test.YtgjokhodccacoaaDoorSRecE2
set_option linter.unusedSimpArgs false
set_option linter.unusedVariables false
namespace Go.Vm
open Go Go.RowKit
theorem cells_all {wl k sz m:Nat} {op:Bool} {M:List (Option AObj)} {cs:List Value} (h:M[k]? = some (some (.cells ⟨cs,sz,op⟩))) (hl:cs.length = m):cellsAt (Hp wl M) k 0 m = some cs:=by
 unfold cellsAt
 rw [show (Hp wl M).get k = some (.cells ⟨cs,sz,op⟩) from get_hq rfl (by rw [h]; rfl)]
 simp only [List.drop_zero,List.take_of_length_le (show cs.length≤m by omega)]
 exact if_pos (by omega)
def Rw (b:Nat) (M:List (Option AObj)) (k c n sz:Nat) (cs:List Value):Prop:=b≤k∧cs.length = n * sz∧∃ op,M[k]? = some (some (.cells ⟨cs,sz,op⟩))∧((c = openB∧op = true)∨(c = 0∧n = 0))
theorem Rw.lt {b:Nat} {M:List (Option AObj)} {k c n sz:Nat} {cs:List Value} (h:Rw b M k c n sz cs):k < M.length:=by
 obtain ⟨_,_,_,h,_⟩:=h
 exact get_lt h
theorem Rw.mono {b:Nat} {M M' : List (Option AObj)} {k c n sz:Nat} {cs:List Value} (h:Rw b M k c n sz cs) (e:M'[k]? = M[k]?):Rw b M' k c n sz cs:=by
 obtain ⟨h1,h2,op,h3,h4⟩:=h
 exact ⟨h1,h2,op,by rw [e]; exact h3,h4⟩
theorem Rw.app {b wl : Nat} {M : List (Option AObj)} {k c n sz ne bytes k2 o2 c2 : Nat} {cs new : List Value} {K : Value → AH → Prop} (h : Rw b M k c n sz cs) (hb : wl ≤ b) (hs : cellsAt (Hp wl M) k2 o2 (ne * sz) = some new) (hne : ne ≠ 0) (hnl : new.length = ne * sz) (hbd : (2 * (n + ne) + 1024) * bytes ≤ 281474976710656) (h1 : new.all Value.oneCell' = true) (hbM : b ≤ M.length)
    (q : ∀ M',M'.length = M.length + 1→(∀ j,j≠k→j < M.length→M'[j]? = M[j]?)→Rw b M' M.length openB (n + ne) sz (cs++new)→K (.slice (some ⟨M.length,0,none⟩) (n + ne) openB) (Hp wl M')) :
    appK (Hp wl M) sz bytes (.slice (some ⟨k,0,none⟩) n c) (.slice (some ⟨k2,o2,none⟩) ne c2) K:=by
 obtain ⟨h2,h3,op,h4,h5⟩:=h
 have hk:=get_lt h4
 have hlen:(cs++new).length = (n + ne) * sz:=by rw [List.length_append,h3,hnl,Nat.add_mul]
 rcases h5 with ⟨rfl,rfl⟩|⟨rfl,rfl⟩
 ·rw [appK_o rfl (by rw [h4]; rfl) h3 hne,show cellsAt (Hq wl [] M) k2 o2 (ne * sz) = some new from hs]
  show chk _ _
  unfold chk
  refine ⟨⟨by omega,hbd⟩,h1,q _ (by rw [List.length_set,List.length_append]; rfl) (fun j hj hl=>?_) ⟨hbM,hlen,true,?_,.inl ⟨rfl,rfl⟩⟩⟩
  ·rw [List.getElem?_set_ne (by omega),List.getElem?_append_left hl]
  ·rw [List.getElem?_set_ne (by omega),List.getElem?_append_right (Nat.le_refl _),Nat.sub_self]
   rfl
 ·have e0:cs = []:=List.eq_nil_of_length_eq_zero (by rw [h3,Nat.zero_mul])
  subst e0
  rw [appK_e (by unfold sCells; exact if_pos rfl) hne,show cellsAt (Hq wl [] M) k2 o2 (ne * sz) = some new from hs]
  show chk _ _
  unfold chk
  rw [Nat.zero_add] at hbd q hlen
  refine ⟨hbd,q _ (by rw [List.length_append]; rfl) (fun j hj hl=>?_) ⟨hbM,hlen,true,?_,.inl ⟨rfl,rfl⟩⟩⟩
  ·rw [List.getElem?_append_left hl]
  ·rw [List.getElem?_append_right (Nat.le_refl _),Nat.sub_self]
   rfl
end Go.Vm
namespace Go.Proofs.YtgjokhodccacoaaDoor
open Go.RowKit Go.Vm
set_option maxRecDepth 100000
def gvF (f:PF):List (Nat×List Int):=if putE f.1 f.2.1.length = 0 then [(f.1.toNat,f.2.1)] else []
def gv (fs:List PF):List (Nat×List Int):=fs.flatMap gvF
def endsF:Nat→List (Nat×List Int)→List Int
 | _,[]=>[]
 | o,v :: r=>((o + (frB v.1 v.2).length:Nat):Int) :: endsF (o + (frB v.1 v.2).length) r
structure FS where
 i:Nat
 bs:List Int
 es:List Int
 ka:Nat
 ca:Nat
 ke:Nat
 ce:Nat
 M:List (Option AObj)
structure FI (fs:List PF) (L1:List (Option AObj)) (s:FS):Prop where
 le:s.i≤fs.length
 old : ∀ j,j < L1.length→s.M[j]? = L1[j]?
 ra:Rw L1.length s.M s.ka s.ca s.bs.length 1 (rows eB s.bs)
 re:Rw L1.length s.M s.ke s.ce s.es.length 1 (rows eN s.es)
 ne:s.ka≠s.ke
 tot:s.bs++catF (gv (fs.drop s.i)) = catF (gv fs)
 ends:s.es++endsF s.bs.length (gv (fs.drop s.i)) = endsF 0 (gv fs)
 bl:s.bs.length≤50 * s.i
 el:s.es.length≤s.i
 small : ∀ j f,fs[j]? = some f→j < s.i→f.2.1.length≤30
 len:L1.length≤s.M.length
end Go.Proofs.YtgjokhodccacoaaDoor
