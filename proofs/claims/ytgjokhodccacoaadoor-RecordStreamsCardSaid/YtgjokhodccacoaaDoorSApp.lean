import Derived.Test.YtgjokhodccacoaaDoorSMem
import Derived.Maps.AppendAt
import Derived.Laws.AppendOwnNone
import Derived.Deep.RegionLaw
namespace Go.Proofs.YtgjokhodccacoaaDoor
open Go.RowKit
def Elem (P:Program) (t e:TypeId) (size bytes:Nat):Prop :=
 P.underlying t = some (.slice e)∧0 < size∧∃ i z,P.info? e = some i∧i.zero = some z∧i.size = size∧i.bytes = bytes∧z.cells.size = size
theorem Elem.of {P:Program} {t e:TypeId} {size bytes:Nat} {z:Value} (h1:P.underlying t = some (.slice e)) (h2:(P.info? e).map (fun i=>(i.zero,i.size,i.bytes)) = some (some z,size,bytes)) (h3:z.cells.size = size) (h4:0 < size):Elem P t e size bytes:=by
 obtain ⟨i,hi,hz,hs,hb⟩:=info_parts h2
 exact ⟨h1,h4,i,z,hi,hz,hs,hb,h3⟩
def Own {α:Type} (enc:α→List Value) (c:Nat) (e:TypeId) (base:Nat) (w:World) (A:Option Addr) (n cap:Nat) (xs:List α):Prop :=
 xs.length = n∧w.ownsRow base e c (.slice A n cap) n (xs.flatMap enc)
def Enc {α:Type} (enc:α→List Value) (c:Nat):Prop:=∀ x,(enc x).length = c∧∀ u∈enc x,u.oneCell' = true
theorem flatMap_len {α:Type} {enc:α→List Value} {c:Nat} (h:Enc enc c) (xs:List α):(xs.flatMap enc).length = xs.length * c:=by
 induction xs with
 | nil=>simp
 | cons x xs ih=>simp only [List.flatMap_cons,List.length_append,ih,(h x).1,List.length_cons,Nat.add_mul]; omega
theorem flatMap_at {α:Type} {enc:α→List Value} {c:Nat} (h:Enc enc c) : ∀ (xs:List α) (i:Nat) (x:α),xs[i]? = some x→∀ j u,(enc x)[j]? = some u→(xs.flatMap enc)[i * c + j]? = some u
 | [],i,x,hx,_,_,_=>by simp at hx
 | y :: ys,0,x,hx,j,u,hu=>by
  simp at hx; subst hx
  have hj:j < (enc y).length:=(List.getElem?_eq_some_iff.1 hu).1
  simp only [List.flatMap_cons,Nat.zero_mul,Nat.zero_add]
  rw [List.getElem?_append_left hj]; exact hu
 | y :: ys,i + 1,x,hx,j,u,hu=>by
  have ih:=flatMap_at h ys i x (by simpa using hx) j u hu
  simp only [List.flatMap_cons]
  rw [List.getElem?_append_right (by rw [(h y).1,Nat.add_mul]; omega),(h y).1]
  rw [show (i + 1) * c + j - c = i * c + j from by rw [Nat.add_mul]; omega]
  exact ih
theorem flatMap_inv {α:Type} {enc:α→List Value} {c:Nat} (h:Enc enc c) : ∀ (xs:List α) (j:Nat) (u:Value),(xs.flatMap enc)[j]? = some u→∃ (i k:Nat) (x:α),j = i * c + k∧xs[i]? = some x∧(enc x)[k]? = some u
 | [],j,u,hu=>by simp at hu
 | y :: ys,j,u,hu=>by
  simp only [List.flatMap_cons] at hu
  by_cases hj:j < (enc y).length
  ·rw [List.getElem?_append_left hj] at hu
   exact ⟨0,j,y,by omega,rfl,hu⟩
  ·rw [List.getElem?_append_right (by omega)] at hu
   obtain ⟨i,k,x,e1,e2,e3⟩:=flatMap_inv h ys _ u hu
   refine ⟨i + 1,k,x,?_,by simpa using e2,e3⟩
   rw [(h y).1] at e1 hj
   rw [Nat.add_mul]; omega
section
variable {α:Type} {enc:α→List Value} {c:Nat} {e:TypeId} {base:Nat} {w w' : World} {A:Option Addr} {n cap:Nat} {xs:List α}
theorem Own.len (h:Own enc c e base w A n cap xs):xs.length = n:=h.1
theorem Own.sl (h:Own enc c e base w A n cap xs) (he:Enc enc c):Sl enc c w w.heap.size A n xs:=by
 refine ⟨h.1,fun hne=>?_⟩
 have hn:0 < n:=by
  have:=h.1
  cases xs with
  | nil=>exact absurd rfl hne
  | cons=>simp at this; omega
 obtain ⟨g,cp,hv,_,hlt⟩:=h.2.form hn
 have hA:A = some ⟨g,0,none⟩:=by injection hv
 subst hA
 refine ⟨g,0,rfl,hlt,fun i x hx j u hu=>?_⟩
 have:=h.2.cells (g:=g) rfl (i * c + j) u (flatMap_at he xs i x hx j u hu)
 have e2:(⟨g,0,none⟩ : Addr).add (i * c + j) = ⟨g,0 + i * c + j,none⟩:=by
  unfold Addr.add; split <;> simp_all
 rw [← e2]; exact this
theorem Own.nil:Own enc c e base w none 0 0 []:=⟨rfl,World.ownsRow_nil w base e c⟩
theorem Own.alloc (h:Own enc c e base w A n cap xs) (o:Obj):Own enc c e base (w.alloc o) A n cap xs:=⟨h.1,h.2.alloc o⟩
theorem Own.below (h:Own enc c e base w A n cap xs) (hb:Below w.heap.size w w'):Own enc c e base w' A n cap xs:=by
 refine ⟨h.1,h.2.1,?_⟩
 rcases h.2.2 with hnil|⟨g,cp,cur,hv,hbg,hg,hr⟩
 ·exact .inl hnil
 ·refine .inr ⟨g,cp,cur,hv,hbg,?_,hr⟩
  rw [hb.block g (by rcases Nat.lt_or_ge g w.heap.size with hlt|hge; exact hlt; rw [Array.getElem?_eq_none hge] at hg; cases hg)]
  exact hg
theorem Own.mono {base' : Nat} (h:Own enc c e base w A n cap xs) (hb:base'≤base):Own enc c e base' w A n cap xs:=by
 refine ⟨h.1,h.2.1,?_⟩
 rcases h.2.2 with hnil|⟨g,cp,cur,hv,hbg,hr⟩
 ·exact .inl hnil
 ·exact .inr ⟨g,cp,cur,hv,by omega,hr⟩
theorem Own.lit (he : Enc enc c) {cs : Array Value} (hb : base ≤ w.heap.size) (hm : xs.length ≤ maxLen) (hcs : cs.toList = xs.flatMap enc) :
    Own enc c e base (w.alloc (.cells cs e)) (some ⟨w.heap.size,0,none⟩) xs.length xs.length xs:=by
 have hs:cs.size = xs.length * c:=by rw [← Array.length_toList,hcs,flatMap_len he]
 refine ⟨rfl,?_⟩
 have:=World.ownsRow_lit (base:=base) (e:=e) (size:=c) w cs xs.length hb hm hs
 rw [hcs] at this
 exact this
end
theorem Sl.news {α : Type} {enc : α → List Value} {c : Nat} {w : World} {B : Nat} {A : Option Addr} {m : Nat} {ys : List α} (he : Enc enc c) (h : Sl enc c w B A m ys) :
    m = 0∨∃ ad,A = some ad∧∀ j u,(ys.flatMap enc)[j]? = some u→w.cell? (ad.add j) = some u:=by
 by_cases hy:ys = []
 ·exact .inl (by rw [← h.1,hy]; rfl)
 ·obtain ⟨b,off,rfl,_,hc⟩:=h.2 hy
  refine .inr ⟨_,rfl,fun j u hu=>?_⟩
  obtain ⟨i,k,x,rfl,hx,hk⟩:=flatMap_inv he ys j u hu
  have e2:(⟨b,off,none⟩ : Addr).add (i * c + k) = ⟨b,off + i * c + k,none⟩:=by
   unfold Addr.add; split
   ·rename_i h0
    rw [Nat.add_assoc,h0]
    rfl
   ·simp; omega
  rw [e2]; exact hc i x hx k u hk
end Go.Proofs.YtgjokhodccacoaaDoor
