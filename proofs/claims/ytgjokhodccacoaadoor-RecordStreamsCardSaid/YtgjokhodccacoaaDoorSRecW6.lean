import Derived.Test.YtgjokhodccacoaaDoorSRecW3
import Derived.Test.YtgjokhodccacoaaDoorSRecP3
set_option linter.unusedSimpArgs false
set_option linter.unusedVariables false
namespace Go.Proofs.YtgjokhodccacoaaDoor
open Go.RowKit Go.Vm
set_option maxRecDepth 100000
abbrev opR (xs:List Int):Option AObj:=some (.cells ⟨rows eB xs,1,true⟩)
section
variable {wl kb:Nat} {L:List (Option AObj)}
end
end Go.Proofs.YtgjokhodccacoaaDoor
set_option linter.unusedSimpArgs false
set_option linter.unusedVariables false
namespace Go.Proofs.YtgjokhodccacoaaDoor
open Go.RowKit Go.Vm
set_option maxRecDepth 100000
section
variable {wl kb:Nat} {L:List (Option AObj)}
end
section
variable {wl kb:Nat} {L:List (Option AObj)}
end
end Go.Proofs.YtgjokhodccacoaaDoor
set_option linter.unusedSimpArgs false
set_option linter.unusedVariables false
namespace Go.Proofs.YtgjokhodccacoaaDoor
open Go.RowKit Go.Vm
set_option maxRecDepth 100000
structure Wr (wl:Nat) (L:List (Option AObj)) (kb k:Nat) (bs:List Int):Prop where
 hwb:wl≤kb
 st:(bs = []∧k = kb∧L[kb]? = some bufE)∨(1≤bs.length∧kb≠k∧wl≤k∧L[kb]? = some (bufO (.slice (some ⟨k,0,none⟩) bs.length openB))∧L[k]? = some (opR bs))
structure WrTo (wl:Nat) (L:List (Option AObj)) (kb k:Nat) (L' : List (Option AObj)) (k' : Nat) (cs:List Int):Prop where
 st:Wr wl L' kb k' cs
 old : ∀ j,j < L.length→j≠kb→j≠k→L'[j]? = L[j]?
 len:L.length≤k'
section
variable {wl kb k k' k'' : Nat} {L L' L'' T:List (Option AObj)} {bs cs ds:List Int}
theorem Wr.lt (W:Wr wl L kb k bs):kb < L.length∧k < L.length:=by
 rcases W.st with ⟨_,rfl,h⟩|⟨_,_,_,h1,h2⟩
 ·exact ⟨get_lt h,get_lt h⟩
 ·exact ⟨get_lt h1,get_lt h2⟩
theorem Wr.app (W:Wr wl L kb k bs):Wr wl (L++T) kb k bs:=by
 refine ⟨W.hwb,?_⟩
 rcases W.st with ⟨h0,h1,h⟩|⟨h0,h1,h2,h3,h4⟩
 ·exact .inl ⟨h0,h1,low_get h⟩
 ·exact .inr ⟨h0,h1,h2,low_get h3,low_get h4⟩
theorem WrTo.lt (T:WrTo wl L kb k L' k' cs) (W:Wr wl L kb k bs):k' < L'.length∧L.length < L'.length:=⟨T.st.lt.2,by have:=T.st.lt.2; have:=T.len; omega⟩
theorem WrTo.trans (W:Wr wl L kb k bs) (A:WrTo wl L kb k L' k' cs) (B:WrTo wl L' kb k' L'' k'' ds):WrTo wl L kb k L'' k'' ds :=
 ⟨B.st,fun j h1 h2 h3=>by
  have:=A.lt W
  rw [B.old j (by omega) h2 (by have:=A.len; omega),A.old j h1 h2 h3],by
  have:=A.lt W
  have:=B.len
  omega⟩
theorem WrTo.low (A:WrTo wl (L++T) kb k L' k' cs):WrTo wl L kb k L' k' cs :=
 ⟨A.st,fun j h1 h2 h3=>by rw [A.old j (by simp; omega) h2 h3,List.getElem?_append_left h1],by have:=A.len; simp at this; omega⟩
end
end Go.Proofs.YtgjokhodccacoaaDoor
