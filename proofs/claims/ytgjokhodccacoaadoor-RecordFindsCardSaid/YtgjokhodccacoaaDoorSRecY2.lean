import Derived.Test.YtgjokhodccacoaaDoorSRecW7
set_option linter.unusedSimpArgs false
set_option linter.unusedVariables false
namespace Go.Proofs.YtgjokhodccacoaaDoor
open Go.RowKit Go.Vm
def fits (ys:List Int) (K:Nat):Prop:=crcF ys K = (nth ys K).toNat * 256 + (nth ys (K + 1)).toNat
end Go.Proofs.YtgjokhodccacoaaDoor
set_option linter.unusedSimpArgs false
set_option linter.unusedVariables false
namespace Go.Proofs.YtgjokhodccacoaaDoor
open Go.RowKit Go.Vm
set_option maxRecDepth 100000
theorem nG_cons {x:Int} {r:List Int} : ∀ k,nG (x :: r) 0 (k + 1) = x % 128 * 128 ^ k + nG r 0 k
 | 0=>by
  show (0:Int) * 128 + x % 128 = x % 128 * 128 ^ 0 + 0
  simp
 | k + 1=>by
  have ih:=nG_cons (x:=x) (r:=r) k
  have e1:nG (x :: r) 0 (k + 1 + 1) = nG (x :: r) 0 (k + 1) * 128 + nth (x :: r) (0 + (k + 1)) % 128:=rfl
  have e2:nG r 0 (k + 1) = nG r 0 k * 128 + nth r (0 + k) % 128:=rfl
  have e3:nth (x :: r) (0 + (k + 1)) = nth r (0 + k):=by rw [Nat.zero_add,Nat.zero_add]; rfl
  rw [e1,e2,e3,ih,Int.add_mul,Int.pow_succ,Int.mul_assoc,Int.add_assoc]
theorem nG_congr {xs ys:List Int} {a b:Nat} : ∀ k,(∀ j,j < k→nth xs (a + j) = nth ys (b + j))→nG xs a k = nG ys b k
 | 0,_=>rfl
 | k + 1,h=>by
  show nG xs a k * 128 + nth xs (a + k) % 128 = nG ys b k * 128 + nth ys (b + k) % 128
  rw [nG_congr k (fun j hj=>h j (by omega)),h k (by omega)]
structure GrP (N m:Nat) (G:List Int):Prop where
 val:(N:Int) = m * 128 ^ G.length + nG G 0 G.length
 big : ∀ j,j + 1 < G.length→128≤nth G j∧nth G j≤255
 pos:0 < G.length
 last:0≤nth G (G.length - 1)∧nth G (G.length - 1) < 128
 first:m = 0→nth G 0≠128
theorem grp_begin {N:Nat}:GrP N (N / 128) [((N % 128:Nat):Int)]:=by
 refine ⟨?_,fun j hj=>absurd hj (by simp),Nat.zero_lt_one,?_,fun _=>?_⟩
 ·show (N:Int) = ((N / 128:Nat):Int) * 128 ^ 1 + (0 * 128 + ((N % 128:Nat):Int) % 128)
  omega
 ·show 0≤((N % 128:Nat):Int)∧((N % 128:Nat):Int) < 128
  omega
 ·show ((N % 128:Nat):Int)≠128
  omega
theorem grp_step {N m:Nat} {acc:List Int} (J:GrP N m acc) (h:m≠0):GrP N (m / 128) (((128 + m % 128:Nat):Int) :: acc):=by
 obtain ⟨j1,j2,j3,j4,j5⟩:=J
 refine ⟨?_,fun j hj=>?_,by simp,?_,fun h0=>?_⟩
 ·rw [List.length_cons,nG_cons,j1,Int.pow_succ]
  have e:((128 + m % 128:Nat):Int) % 128 = (m:Int) % 128:=by omega
  rw [e]
  have e2:(m:Int) = ((m / 128:Nat):Int) * 128 + (m:Int) % 128:=by omega
  conv=>lhs; rw [e2]
  rw [Int.add_mul,Int.mul_assoc,Int.mul_comm 128 (128 ^ acc.length),Int.add_assoc]
 ·cases j with
  | zero=>show 128≤((128 + m % 128:Nat):Int)∧((128 + m % 128:Nat):Int)≤255; omega
  | succ j=>exact j2 j (by simpa using hj)
 ·have e:(((128 + m % 128:Nat):Int) :: acc).length - 1 = (acc.length - 1) + 1:=by simp; omega
  rw [e]
  exact j4
 ·show ((128 + m % 128:Nat):Int)≠128
  omega
theorem groups_P {N:Nat} (h:N < 9223372036854775808):GrP N 0 (groups N):=by
 have key : ∀ k m acc,m≤k→GrP N m acc→GrP N 0 (grL m acc):=by
  intro k
  induction k with
  | zero =>
   intro m acc hk J
   obtain rfl:m = 0:=by omega
   rw [grL,dif_pos rfl]
   exact J
  | succ k ih =>
   intro m acc hk J
   by_cases h0:m = 0
   ·subst h0
    rw [grL,dif_pos rfl]
    exact J
   ·rw [grL,dif_neg h0]
    exact ih _ _ (by omega) (grp_step J h0)
 exact key _ _ _ (Nat.le_refl _) grp_begin
theorem numG_groups {ys:List Int} {most:Int} {at_ N:Nat} (hN:N < 9223372036854775808) (hm:(N:Int)≤most) (hl:at_ + (groups N).length≤ys.length) (hy : ∀ j,j < (groups N).length→nth ys (at_ + j) = nth (groups N) j):numG ys most at_ 9 0 = .ok N (at_ + (groups N).length):=by
 obtain ⟨j1,j2,j3,j4,j5⟩:=groups_P hN
 obtain ⟨g1,g2⟩:=groups_len hN
 have hv:nG ys at_ (groups N).length = N:=by
  rw [nG_congr (ys:=groups N) (b:=0) _ (fun j hj=>by rw [Nat.zero_add]; exact hy j hj)]
  simpa using j1.symm
 generalize groups N = G at *
 have key : ∀ d i,i + d + 1 = G.length→numG ys most at_ (9 - i) i = .ok N (at_ + G.length):=by
  intro d
  induction d with
  | zero =>
   intro i hi
   rw [show 9 - i = (8 - i) + 1 by omega,numG,if_neg (by omega)]
   have hb:=hy i (by omega)
   have e:G.length - 1 = i:=by omega
   rw [e] at j4
   rw [if_neg (by
    rintro ⟨h0,h1⟩
    have:=hy 0 (by omega)
    rw [Nat.add_zero,h1] at this
    exact j5 rfl this.symm),if_pos (by rw [hb]; exact j4.2)]
   have hv' : nG ys at_ (i + 1) = N:=by rw [show i + 1 = G.length by omega]; exact hv
   rw [hv',if_neg (by omega),show at_ + i + 1 = at_ + G.length by omega]
  | succ d ih =>
   intro i hi
   rw [show 9 - i = (8 - i) + 1 by omega,numG,if_neg (by omega)]
   have hb:=hy i (by omega)
   have hbig:=j2 i (by omega)
   rw [if_neg (by
    rintro ⟨h0,h1⟩
    have:=hy 0 (by omega)
    rw [Nat.add_zero,h1] at this
    exact j5 rfl this.symm),if_neg (by omega),show 8 - i = 9 - (i + 1) by omega]
   exact ih (i + 1) (by omega)
 exact key (G.length - 1) 0 (by omega)
theorem crcF_congr {xs ys:List Int} : ∀ i,(∀ j,j < i→nth xs j = nth ys j)→crcF xs i = crcF ys i
 | 0,_=>rfl
 | i + 1,h=>by
  show bc _ _ 8 = bc _ _ 8
  rw [crcF_congr i (fun j hj=>h j (by omega)),h i (by omega)]
theorem crc_sub {ys:List Int} {K:Nat} (h:K≤ys.length):crc (sub ys 0 K) = crcF ys K:=by
 have hl:(sub ys 0 K).length = K:=sub_len (by omega)
 unfold crc
 rw [hl]
 refine crcF_congr K fun j hj=>?_
 unfold nth
 show ((ys.drop 0).take K).getD j _ = _
 rw [List.drop_zero,List.getD_eq_getElem?_getD,List.getD_eq_getElem?_getD,List.getElem?_take,if_pos hj]
theorem frF_head {ys : List Int} {kind n : Nat} (hk : 1 ≤ kind ∧ kind ≤ 250) (hn : n ≤ 10000) (h0 : nth ys 0 = kind) (hg : ∀ j, j < (groups n).length → nth ys (1 + j) = nth (groups n) j) (hl : 1 + (groups n).length + n + 2 ≤ ys.length) (hB : isB ys) :
    (fits ys (1 + (groups n).length + n)→frF ys 0 = .ok kind (1 + (groups n).length) n (1 + (groups n).length + n + 2))∧(¬ fits ys (1 + (groups n).length + n)→frF ys 0 = .err 62 (1 + (groups n).length + n)):=by
 obtain ⟨g1,g2⟩:=groups_len (N:=n) (by omega)
 have hnum:=numG_groups (ys:=ys) (most:=1000000000000000) (at_:=1) (N:=n) (by omega) (by omega) (by omega) hg
 have b1:=hB _ (nth_mem (i:=1 + (groups n).length + n) (by omega))
 have b2:=hB _ (nth_mem (i:=1 + (groups n).length + n + 1) (by omega))
 have e:frF ys 0 = if (crcF ys (1 + (groups n).length + n):Int)≠nth ys (1 + (groups n).length + n) * 256 + nth ys (1 + (groups n).length + n + 1) then .err 62 (1 + (groups n).length + n) else .ok kind (1 + (groups n).length) n (1 + (groups n).length + n + 2):=by
  unfold frF
  rw [if_neg (by omega),if_neg (by rw [h0]; omega),Nat.zero_add,hnum]
  simp only [Int.toNat_natCast,Nat.sub_zero]
  rw [if_neg (by omega),if_neg (by omega),crc_sub (by omega),h0]
 have hf:fits ys (1 + (groups n).length + n)↔(crcF ys (1 + (groups n).length + n):Int) = nth ys (1 + (groups n).length + n) * 256 + nth ys (1 + (groups n).length + n + 1):=by
  unfold fits
  omega
 rw [e]
 refine ⟨fun h=>?_,fun h=>?_⟩
 ·rw [if_neg (by intro h2; exact h2 (hf.1 h))]
 ·rw [if_pos (by intro h2; exact h (hf.2 h2))]
theorem nth_app' {a b:List Int} {i:Nat}:nth (a++b) i = if i < a.length then nth a i else nth b (i - a.length):=by
 unfold nth
 rw [List.getD_eq_getElem?_getD,List.getElem?_append]
 split <;> rw [List.getD_eq_getElem?_getD]
theorem frB_head {kind:Nat} {xs zs:List Int}:nth (frB kind xs++zs) 0 = kind∧∀ j,j < (groups xs.length).length→nth (frB kind xs++zs) (1 + j) = nth (groups xs.length) j:=by
 have e:frB kind xs++zs = (kind:Int) :: (groups xs.length++(xs++([((crc (frH kind xs) / 256:Nat):Int),((crc (frH kind xs) % 256:Nat):Int)]++zs))):=by
  unfold frB
  generalize [((crc (frH kind xs) / 256:Nat):Int),((crc (frH kind xs) % 256:Nat):Int)] = ck
  rw [frH]
  simp
 rw [e]
 refine ⟨rfl,fun j hj=>?_⟩
 rw [Nat.add_comm]
 show nth (groups xs.length++_) j = _
 rw [nth_app',if_pos hj]
theorem frB_fits {kind:Nat} {xs zs:List Int}:fits (frB kind xs++zs) (1 + (groups xs.length).length + xs.length):=by
 have hl:=frH_len (kind:=kind) (xs:=xs)
 have hc:=crc_lt (xs:=frH kind xs) (frH kind xs).length
 have hcd:crc (frH kind xs) = crcF (frH kind xs) (frH kind xs).length:=rfl
 unfold fits
 have e1:crcF (frB kind xs++zs) (1 + (groups xs.length).length + xs.length) = crc (frH kind xs):=by
  rw [hcd,hl]
  refine crcF_congr _ fun j hj=>?_
  unfold frB
  rw [List.append_assoc,nth_app',if_pos (by omega)]
 have e2:nth (frB kind xs++zs) (1 + (groups xs.length).length + xs.length) = ((crc (frH kind xs) / 256:Nat):Int):=by
  unfold frB
  rw [List.append_assoc,nth_app',if_neg (by omega),hl,Nat.sub_self]
  rfl
 have e3:nth (frB kind xs++zs) (1 + (groups xs.length).length + xs.length + 1) = ((crc (frH kind xs) % 256:Nat):Int):=by
  unfold frB
  rw [List.append_assoc,nth_app',if_neg (by omega),hl,Nat.add_sub_cancel_left]
  rfl
 rw [e1,e2,e3]
 omega
theorem frB_isB {kind:Nat} {xs:List Int} (hk:kind≤255) (hx:isB xs) (hl:xs.length < 9223372036854775808):isB (frB kind xs):=by
 intro x hx'
 rcases List.mem_append.1 hx' with h|h
 ·exact frH_isB hk hx hl x h
 ·have hc:=crc_lt (xs:=frH kind xs) (frH kind xs).length
  have hcd:crc (frH kind xs) = crcF (frH kind xs) (frH kind xs).length:=rfl
  simp only [List.mem_cons,List.not_mem_nil,or_false] at h
  rcases h with rfl|rfl <;> omega
end Go.Proofs.YtgjokhodccacoaaDoor
