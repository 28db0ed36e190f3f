import Derived.WalkKit
import Derived.WalkSpells
import Derived.WalkLawsBesides
import Derived.Lib.Hide
import Derived.Deep.AppendLies
import Derived.Laws.OwnMore
import Derived.Deep.Draws
namespace Go.Proofs.YtgjokhodccacoaaDoor
open Go.RowKit
def Sl {α:Type} (enc:α→List Value) (c:Nat) (w:World) (B:Nat) (A:Option Addr) (n:Nat) (xs:List α):Prop :=
 xs.length = n∧(xs≠[]→∃ b off,A = some ⟨b,off,none⟩∧b < B ∧
  ∀ i x,xs[i]? = some x→∀ j u,(enc x)[j]? = some u→w.cell? ⟨b,off + i * c + j,none⟩ = some u)
theorem Sl.nil {α:Type} {enc:α→List Value} {c:Nat} {w:World} {B:Nat} {A:Option Addr}:Sl enc c w B A 0 []:=⟨rfl,fun h=>absurd rfl h⟩
section
variable {α:Type} {enc:α→List Value} {c:Nat} {w w' : World} {B B' : Nat} {A:Option Addr} {n:Nat} {xs:List α}
theorem Sl.keep (h:Sl enc c w B A n xs) (hk : ∀ p:Addr,p.block < B→w'.cell? p = w.cell? p):Sl enc c w' B A n xs:=⟨h.1,fun hx=>by
 obtain ⟨b,off,e,hb,hc⟩:=h.2 hx
 exact ⟨b,off,e,hb,fun i x hi j u hu=>(hk _ hb).trans (hc i x hi j u hu)⟩⟩
theorem Sl.below (h:Sl enc c w B A n xs) (hb:Below B w w'):Sl enc c w' B A n xs:=h.keep fun _ hp=>hb.cell hp
theorem Sl.more (h:Sl enc c w B A n xs) (hB:B≤B'):Sl enc c w B' A n xs:=⟨h.1,fun hx=>by
 obtain ⟨b,off,e,hb,hc⟩:=h.2 hx
 exact ⟨b,off,e,by omega,hc⟩⟩
theorem Sl.len (h:Sl enc c w B A n xs):xs.length = n:=h.1
theorem Sl.at_ (h:Sl enc c w B A n xs) {k:Nat} {x:α} (hk:xs[k]? = some x) : ∃ b off,A = some ⟨b,off,none⟩∧b < B∧∀ j u,(enc x)[j]? = some u→w.cell? ⟨b,off + k * c + j,none⟩ = some u:=by
 obtain ⟨b,off,e,hb,hc⟩:=h.2 (by intro h0; rw [h0] at hk; simp at hk)
 exact ⟨b,off,e,hb,hc k x hk⟩
end
section
variable {w:World} {B:Nat} {A:Option Addr} {n k:Nat}
end
def Bk (w:World) (g:Nat) (t:TypeId) (cs:Array Value):Prop:=w.heap[g]? = some (.cells cs t (0,0))
section
variable {w w' : World} {g:Nat} {t:TypeId} {cs:Array Value}
theorem Bk.lt (h:Bk w g t cs):g < w.heap.size:=by
 rcases Nat.lt_or_ge g w.heap.size with hlt|hge
 ·exact hlt
 ·unfold Bk at h; rw [Array.getElem?_eq_none hge] at h; cases h
theorem Bk.cell (h:Bk w g t cs) {j:Nat} {u:Value} (hj:cs[j]? = some u):w.cell? ⟨g,j,none⟩ = some u:=by
 unfold Bk at h; simp [World.cell?,h,hj]
theorem Bk.new (w:World) (cs:Array Value) (t:TypeId):Bk (w.alloc (.cells cs t)) w.heap.size t cs:=heap_alloc_new w _
theorem Bk.alloc (h:Bk w g t cs) (o:Obj):Bk (w.alloc o) g t cs:=(Below.heap_alloc w o g h.lt).trans h
theorem Bk.below {B:Nat} (h:Bk w g t cs) (hb:Below B w w') (hg:g < B):Bk w' g t cs:=(hb.block g hg).trans h
theorem Bk.other (h:Bk w g t cs) {p:Addr} (hp:g≠p.block) (u:Value):Bk (w.setCell p u) g t cs:=(Below.heap_setCell w p u g hp).trans h
theorem Bk.set (h:Bk w g t cs) (j:Nat) (u:Value):Bk (w.setCell ⟨g,j,none⟩ u) g t (cs.setIfInBounds j u):=by
 have hl:=h.lt
 unfold Bk at h ⊢
 have h2:w.heap[g] = .cells cs t (0,0):=by rw [Array.getElem?_eq_getElem hl] at h; injection h
 simp only [World.setCell]
 rw [Array.getElem?_eq_getElem (by simpa using hl),Array.getElem_modify]
 simp [h2]
end
theorem Sl.get {α:Type} {enc:α→List Value} {c:Nat} {w:World} {B:Nat} {A:Option Addr} {n k:Nat} {xs:List α} (h:Sl enc c w B A n xs) (hk:k < n) : ∃ x,xs[k]? = some x:=⟨xs[k]'(by rw [h.1]; exact hk),List.getElem?_eq_getElem _⟩
end Go.Proofs.YtgjokhodccacoaaDoor
