import Derived.Test.YtgjokhodccacoaaDoorSRecS1
set_option linter.unusedSimpArgs false
set_option linter.unusedVariables false
namespace Go.Proofs.YtgjokhodccacoaaDoor
open Go.RowKit Go.Vm
set_option maxRecDepth 100000
end Go.Proofs.YtgjokhodccacoaaDoor
set_option linter.unusedSimpArgs false
set_option linter.unusedVariables false
namespace Go.Proofs.YtgjokhodccacoaaDoor
open Go.RowKit Go.Vm
set_option maxRecDepth 100000
theorem sc_all {xs:List Int} (hl:xs.length≤30000) : ∀ k s,xs.length - s.at_≤k→ScJ xs s→ScJ xs (scFin xs s)∧(scFin xs s).at_≤xs.length:=by
 intro k
 induction k with
 | zero =>
  intro s h J
  obtain ⟨j1,j2,_⟩:=id J
  rw [scFin,dif_neg (by omega)]
  exact ⟨J,j2⟩
 | succ k ih =>
  intro s h J
  obtain ⟨j1,j2,_⟩:=id J
  by_cases hx:s.at_ < xs.length
  ·obtain ⟨J2,h2⟩:=sc_step hl J hx
   rw [scFin,dif_pos ⟨hx,h2⟩]
   exact ih _ (by omega) J2
  ·rw [scFin,dif_neg (by omega)]
   exact ⟨J,j2⟩
theorem sc_len (xs:List Int):(scF xs).length≤30000∧(scL xs).length≤30001:=by
 unfold scF scL
 by_cases hl:30000 < xs.length
 ·rw [if_pos hl,if_pos hl]; decide
 ·rw [if_neg hl,if_neg hl]
  obtain ⟨⟨j1,j2,j3,j4,j5,j6⟩,_⟩:=sc_all (by omega) _ _ (Nat.le_refl _) (sc_begin (xs:=xs))
  refine ⟨by omega,?_⟩
  unfold lz
  split
  ·rw [List.length_append]
   simp only [List.length_cons,List.length_nil]
   omega
  ·omega
section
variable {n c k sz:Nat} {op:Bool} {xs:List Int} {h:AH}
abbrev scV (b:Nat) (xs:List Int):Value:=.tuple #[sO b (scF xs).length,sO (b + 1) (scL xs).length,.int .i64 (scE xs)]
abbrev scO (xs:List Int):List AObj:=[.cells ⟨rows eF3 (scF xs),3,true⟩,.cells ⟨rows eR2 (scL xs),2,true⟩]
theorem sc_no (xs:List Int) : ∀ o∈[((scF xs).length,rows eF3 (scF xs),3),((scL xs).length,rows eR2 (scL xs),2)],noAddrL o.2.1 = true:=by
 intro o h
 simp only [List.mem_cons,List.not_mem_nil,or_false] at h
 rcases h with rfl|rfl
 ·exact rows_no (f:=eF3) _
 ·exact rows_no (f:=eR2) _
theorem scan_f (hn:xs.length = n) (hB:isB xs) (hb:n≤1000000) (hs:h.sees 0 = true) (hg:h.get k = some (.cells ⟨rows eB xs,sz,op⟩)):Fc Tryd.prog 27 [sO k n] h (scV h.next xs) (h.news (scO xs)) :=
 Fc.lift1o (os:=[((scF xs).length,rows eF3 (scF xs),3),((scL xs).length,rows eR2 (scL xs),2)]) (mk:=fun ss=>ss++[]) (mkv:=fun ss=>.tuple ⟨ss++[.int .i64 (scE xs)]⟩) (scan_c n xs hn hB hb) (MkL.app rfl) (MkV.tup (MkL.app rfl)) (rows_no (f:=eB) _) (sc_no xs) hs hg
end
end Go.Proofs.YtgjokhodccacoaaDoor
