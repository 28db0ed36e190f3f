import Derived.Test.YtgjokhodccacoaaDoorSRecQ0
import Derived.Test.YtgjokhodccacoaaDoorSMq
set_option linter.unusedSimpArgs false
set_option linter.unusedVariables false
namespace Go.Vm
open Go Go.RowKit
section
variable {P:Program} {w:Bool} {t el:TypeId} {f:TypeInfo} {s d e k n c sz o:Nat} {l:Fr} {h:AH} {K:Value→AH→Prop} {op:Bool} {xs:List Int}
theorem gen_toC {j : Nat} {y : Int} {a : Addr} (hu : P.underlying t = some (.slice el)) (hi : P.info? el = some f) (hl : lk l s = some (.slice (some a) n c)) (he : lk l e = some (.int .i64 y)) (hy : y = j) (hj : j ≤ c) (hco : c < openB) (q : K (.slice (some a) j c) h) :
    iStep P w (.gen (.slice t (.tmp s) none (some (.tmp e)) none)) l h K:=by
 subst hy
 refine ⟨_,_,?_,q⟩
 have e1:aEnv (trOf l) (.tmp s) = some (.slice (some a) n c):=by simp only [aEnv,trOf_get,hl]
 have e2:aOptV (aEnv (trOf l)) (some (.tmp e)) = some (some (.int .i64 j)):=by simp only [aOptV,aEnv,trOf_get,he]
 have e4:aOptV (aEnv (trOf l)) none = some none:=rfl
 have n1:natOf (some (.int .i64 (j:Int))) n = some j:=natOf_n
 have n2:natOf none 0 = some 0:=rfl
 have n3:natOf none c = some c:=rfl
 have hv:aSlice P t (.slice (some a) n c) none (some (.int .i64 j)) none = some (.slice (some a) j c):=by
  simp only [aSlice,hu,hi,n1,n2,n3,if_pos hco]
  rw [if_pos ⟨by omega,hj,Nat.le_refl _,by simp,by simp⟩]
  by_cases h0:c = 0
  ·simp [h0]
  ·rw [if_neg h0]
   simp [Addr.add]
 simp only [aOp,e1,e2,e4,hv]
theorem gen_fromC {i : Nat} {x : Int} (hu : P.underlying t = some (.slice el)) (hi : P.info? el = some f) (hsz : f.size = 1) (hl : lk l s = some (.slice (some ⟨k, 0, none⟩) n c)) (h1 : lk l d = some (.int .i64 x)) (hx : x = i) (hn : i ≤ n) (hc : n ≤ c) (hco : c < openB) (q : K (.slice (some ⟨k, if c = i then 0 else i, none⟩) (n - i) (c - i)) h) :
    iStep P w (.gen (.slice t (.tmp s) (some (.tmp d)) none none)) l h K:=by
 subst hx
 refine ⟨_,_,?_,q⟩
 have e1:aEnv (trOf l) (.tmp s) = some (.slice (some ⟨k,0,none⟩) n c):=by simp only [aEnv,trOf_get,hl]
 have e2:aOptV (aEnv (trOf l)) (some (.tmp d)) = some (some (.int .i64 i)):=by simp only [aOptV,aEnv,trOf_get,h1]
 have e4:aOptV (aEnv (trOf l)) none = some none:=rfl
 have n1:natOf (some (.int .i64 (i:Int))) 0 = some i:=natOf_n
 have n2:natOf none n = some n:=rfl
 have n3:natOf none c = some c:=rfl
 have hv:aSlice P t (.slice (some ⟨k,0,none⟩) n c) (some (.int .i64 i)) none none = some (.slice (some ⟨k,if c = i then 0 else i,none⟩) (n - i) (c - i)):=by
  simp only [aSlice,hu,hi,n1,n2,n3,if_pos hco,hsz]
  rw [if_pos ⟨hn,hc,Nat.le_refl _,by simp,by simp [hc]⟩]
  by_cases h0:c = i
  ·simp [h0]
  ·rw [if_neg h0,if_neg h0]
   simp only [Option.map_some,Addr.add,Nat.zero_add,Nat.mul_one]
   split
   ·rename_i hz; rw [hz]
   ·rfl
 simp only [aOp,e1,e2,e4,hv]
theorem gen_toO {j : Nat} {y : Int} (hu : P.underlying t = some (.slice el)) (hi : P.info? el = some f) (hl : lk l s = some (.slice (some ⟨k, 0, none⟩) n openB)) (he : lk l e = some (.int .i64 y)) (hy : y = j) (hj : j ≤ n) (q : K (.slice (some ⟨k, 0, none⟩) j openB) h) :
    iStep P w (.gen (.slice t (.tmp s) none (some (.tmp e)) none)) l h K:=by
 subst hy
 refine ⟨_,_,?_,q⟩
 have e1:aEnv (trOf l) (.tmp s) = some (.slice (some ⟨k,0,none⟩) n openB):=by simp only [aEnv,trOf_get,hl]
 have e2:aOptV (aEnv (trOf l)) (some (.tmp e)) = some (some (.int .i64 j)):=by simp only [aOptV,aEnv,trOf_get,he]
 have e4:aOptV (aEnv (trOf l)) none = some none:=rfl
 have n1:natOf (some (.int .i64 (j:Int))) n = some j:=natOf_n
 have n2:natOf none 0 = some 0:=rfl
 have n3:natOf none openB = some openB:=rfl
 have hv:aSlice P t (.slice (some ⟨k,0,none⟩) n openB) none (some (.int .i64 j)) none = some (.slice (some ⟨k,0,none⟩) j openB):=by
  simp only [aSlice,hu,hi,n1,n2,n3]
  rw [if_neg (Nat.lt_irrefl _),if_neg (by simp),if_pos ⟨by omega,hj,by simp⟩]
  simp [Addr.add]
 simp only [aOp,e1,e2,e4,hv]
theorem gen_fromO {i : Nat} {x : Int} (hu : P.underlying t = some (.slice el)) (hi : P.info? el = some f) (hsz : f.size = 1) (hl : lk l s = some (.slice (some ⟨k, 0, none⟩) n openB)) (h1 : lk l d = some (.int .i64 x)) (hx : x = i) (hn : i < n ∨ i = 0) (q : K (.slice (some ⟨k, i, none⟩) (n - i) (openB + i)) h) :
    iStep P w (.gen (.slice t (.tmp s) (some (.tmp d)) none none)) l h K:=by
 subst hx
 refine ⟨_,_,?_,q⟩
 have e1:aEnv (trOf l) (.tmp s) = some (.slice (some ⟨k,0,none⟩) n openB):=by simp only [aEnv,trOf_get,hl]
 have e2:aOptV (aEnv (trOf l)) (some (.tmp d)) = some (some (.int .i64 i)):=by simp only [aOptV,aEnv,trOf_get,h1]
 have e4:aOptV (aEnv (trOf l)) none = some none:=rfl
 have n1:natOf (some (.int .i64 (i:Int))) 0 = some i:=natOf_n
 have n2:natOf none n = some n:=rfl
 have n3:natOf none openB = some openB:=rfl
 have hv:aSlice P t (.slice (some ⟨k,0,none⟩) n openB) (some (.int .i64 i)) none none = some (.slice (some ⟨k,i,none⟩) (n - i) (openB + i)):=by
  simp only [aSlice,hu,hi,n1,n2,n3,hsz]
  rw [if_neg (Nat.lt_irrefl _),if_neg (by simp),if_pos ⟨by omega,Nat.le_refl _,by omega⟩]
  simp only [Addr.add,Nat.zero_add,Nat.mul_one]
  split
  ·rename_i hz; rw [hz]
  ·rfl
 simp only [aOp,e1,e2,e4,hv]
theorem bi_zeros {t2 : TypeId} {ik : IntKind} {z : Value} {args : List X} {m : Int} {j : Nat} (hu : P.underlying t = some (.slice el)) (hu2 : P.underlying t2 = some (.int ik)) (hi : P.info? el = some f) (hz : zeroOf P el = some z) (hzs : z.cells.size = f.size) (hb : f.bytes = 1) (hsz : f.size = 1) (hl : evs l args = some [.slice none 0 0, .int .i64 m]) (hm : m = j) (h0 : 0 < j) (h1 : j ≤ 281474976710656)
    (q:K (.slice (some ⟨h.next,0,none⟩) j openB) (h.new (.cells ⟨zlist z j,1,true⟩))):iStep P w (.bi .append #[t,t2] args) l h K:=by
 show match evs l args with
  | some vs=>∃ v h',(∀ ty,aBuiltin P h .append #[t,t2] ty vs = some (v,h'))∧K v h'
  | none=>False
 rw [hl]
 subst hm
 refine ⟨_,_,fun ty=>?_,q⟩
 have e0:(#[t,t2]:Array TypeId)[0]? = some t:=rfl
 have e1:(#[t,t2]:Array TypeId)[1]? = some t2:=rfl
 have a1:aAppend P h #[t,t2] (.slice none 0 0) (.int .i64 j) = none:=by
  unfold aAppend
  simp only [e0,e1,hu,hu2]
 have a2:aAppz P h #[t,t2] (.slice none 0 0) (.int .i64 j) = some (.slice (some ⟨h.next,0,none⟩) j openB,h.new (.cells ⟨zlist z j,1,true⟩)):=by
  unfold aAppz
  simp only [e0,e1,hu,hu2,hi,hz]
  rw [if_pos ⟨hzs,by omega,by omega,by omega,by omega,by rw [hb]; omega⟩,hsz,Nat.mul_one,Int.toNat_natCast]
 simp only [aBuiltin,a1,a2,Option.none_or]
theorem bi_copyM {t2 : TypeId} {args : List X} {k2 o2 c2 dl sl m : Nat} {b b2 : Blk} {cs : List Value} (hu : P.underlying t = some (.slice el)) (hi : P.info? el = some f) (hsz : f.size = 1) (hl : evs l args = some [.slice (some ⟨k, o, none⟩) dl c, .slice (some ⟨k2, o2, none⟩) sl c2]) (hmn : Nat.min sl dl = m) (hn : m ≠ 0)
    (hg:h.get k = some (.cells b)) (hg2:h.get k2 = some (.cells b2)) (hcs:takeC b2.cells o2 m = some cs) (hlen:o + m≤b.cells.length) (hw:h.wlim≤k) (h1:cs.all Value.oneCell' = true) (he:b.esz≠0)
    (q:K (.int .i64 m) (h.put k (some (.cells { b with cells:=writeAt b.cells o cs })))):iStep P w (.bi .copy #[t,t2] args) l h K:=by
 show match evs l args with
  | some vs=>∃ v h',(∀ ty,aBuiltin P h .copy #[t,t2] ty vs = some (v,h'))∧K v h'
  | none=>False
 rw [hl]
 have hcl:cs.length = m∧o2 + m≤b2.cells.length∧(b2.cells.drop o2).take m = cs:=by
  unfold takeC at hcs
  split at hcs
  ·rename_i hh
   injection hcs with hcs
   refine ⟨?_,hh,hcs⟩
   rw [← hcs,List.length_take,List.length_drop]
   omega
  ·cases hcs
 refine ⟨_,_,fun ty=>?_,q⟩
 have e1:aFirst h 1 m (.slice (some ⟨k2,o2,none⟩) sl c2) = some cs:=by
  show (if m * 1 = 0 then some [] else _) = _
  rw [Nat.mul_one,if_neg hn]
  simp only [hg2]
  rw [if_pos hcl.2.1,hcl.2.2]
 have e2:cs.isEmpty = false:=by
  cases cs with
  | nil=>simp at hcl; omega
  | cons _ _=>rfl
 show aCopy P h #[t,t2] _ _ = _
 have e3:(#[t,t2]:Array TypeId)[0]? = some t:=rfl
 have e4:lenA (.slice (some ⟨k2,o2,none⟩) sl c2) = some sl:=rfl
 simp only [aCopy,e3,hu,e4,hi,hsz,hg,hmn,e1]
 rw [if_pos ⟨hw,by omega,h1,he⟩,e2]
 simp
theorem bi_copy0 {t2 : TypeId} {args : List X} {k2 o2 c2 dl sl : Nat} {b : Blk} (hu : P.underlying t = some (.slice el)) (hi : P.info? el = some f) (hl : evs l args = some [.slice (some ⟨k, o, none⟩) dl c, .slice (some ⟨k2, o2, none⟩) sl c2]) (h0 : sl = 0)
    (hg:h.get k = some (.cells b)) (hlen:o≤b.cells.length) (hw:h.wlim≤k) (he:b.esz≠0)
    (q:K (.int .i64 0) h):iStep P w (.bi .copy #[t,t2] args) l h K:=by
 show match evs l args with
  | some vs=>∃ v h',(∀ ty,aBuiltin P h .copy #[t,t2] ty vs = some (v,h'))∧K v h'
  | none=>False
 rw [hl]
 subst h0
 refine ⟨_,_,fun ty=>?_,q⟩
 show aCopy P h #[t,t2] _ _ = _
 have e3:(#[t,t2]:Array TypeId)[0]? = some t:=rfl
 have e4:lenA (.slice (some ⟨k2,o2,none⟩) 0 c2) = some 0:=rfl
 have e1:aFirst h f.size 0 (.slice (some ⟨k2,o2,none⟩) 0 c2) = some []:=by simp [aFirst]
 have e5:Nat.min 0 dl = 0:=Nat.zero_min _
 simp only [aCopy,e3,hu,e4,hi,hg,e5,e1]
 rw [if_pos ⟨hw,by simpa using hlen,rfl,he⟩]
 rfl
end
end Go.Vm
