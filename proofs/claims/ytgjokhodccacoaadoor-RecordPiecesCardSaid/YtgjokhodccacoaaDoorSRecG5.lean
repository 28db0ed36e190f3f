import Derived.Test.YtgjokhodccacoaaDoorSRecG3
set_option linter.unusedSimpArgs false
set_option linter.unusedVariables false
namespace Go.Vm
open Go Go.RowKit
section
variable {P:Program} {w:Bool} {t el:TypeId} {f:TypeInfo} {s d e k n a c:Nat} {l:Fr} {h:AH} {K:Value→AH→Prop}
end
end Go.Vm
namespace Go.Proofs.YtgjokhodccacoaaDoor
open Go.RowKit Go.Vm
set_option maxRecDepth 100000
end Go.Proofs.YtgjokhodccacoaaDoor
set_option linter.unusedSimpArgs false
set_option linter.unusedVariables false
namespace Go.Vm
open Go Go.RowKit
section
variable {P:Program} {w:Bool} {t el:TypeId} {f:TypeInfo} {s k n c sz:Nat} {l:Fr} {h:AH} {K:Value→AH→Prop} {op:Bool} {xs:List Int}
theorem bytesL_rows : ∀ ys:List Int,bytesL (rows (fun x:Int=>[Value.int .u8 x]) ys) = some ys
 | []=>rfl
 | y :: ys=>by
  show bytesL (Value.int .u8 y :: rows _ ys) = _
  rw [bytesL,bytesL_rows ys]
theorem gen_str {d : TypeId} {el : TypeId} (hm : memConv t d = true) (hu : P.underlying t = some (.slice el)) (he : P.underlying el = some (.int .u8)) (hd : P.underlying d = some .string) (hl : lk l s = some (.slice (some ⟨k, 0, none⟩) n c)) (hn : xs.length = n) (hg : h.get k = some (.cells ⟨rows (fun x : Int => [Value.int .u8 x]) xs, sz, op⟩)) (q : K (aStr xs) h) :
    iStep P w (.gen (.convert t d (.tmp s))) l h K:=by
 subst hn
 refine ⟨_,_,?_,q⟩
 have e1:aEnv (trOf l) (.tmp s) = some (.slice (some ⟨k,0,none⟩) xs.length c):=by simp only [aEnv,trOf_get,hl]
 have hlen:(rows (fun x:Int=>[Value.int .u8 x]) xs).length = xs.length:=by
  have key : ∀ ys:List Int,(rows (fun x:Int=>[Value.int .u8 x]) ys).length = ys.length:=by
   intro ys
   induction ys with
   | nil=>rfl
   | cons x r ih=>show (_ :: rows _ r).length = _; simpa using ih
  exact key xs
 have e2:aFirst h 1 xs.length (.slice (some ⟨k,0,none⟩) xs.length c) = some (rows (fun x:Int=>[Value.int .u8 x]) xs):=by
  show (if xs.length * 1 = 0 then some [] else _) = _
  rw [Nat.mul_one]
  by_cases h0:xs.length = 0
  ·rw [if_pos h0,List.eq_nil_of_length_eq_zero h0]
   rfl
  ·rw [if_neg h0]
   simp only [hg,Nat.zero_add,hlen,List.drop_zero]
   rw [if_pos (Nat.le_refl _),List.take_of_length_le (by omega)]
 have e3:noAddr (.slice (some ⟨k,0,none⟩) xs.length c) = false:=rfl
 simp only [aOp,e1,e3,Bool.false_eq_true,if_false,hm,if_true,aToStr,hu,hd,he,e2,bytesL_rows]
end
end Go.Vm
namespace Go.Proofs.YtgjokhodccacoaaDoor
open Go.RowKit Go.Vm
set_option maxRecDepth 100000
theorem u_str:Tryd.prog.underlying 9 = some .string:=by kernel_rfl
theorem u_uint8:Tryd.prog.underlying 5 = some (.int .u8):=by kernel_rfl
end Go.Proofs.YtgjokhodccacoaaDoor
