import Derived.Test.YtgjokhodccacoaaDoorSRecN1
set_option linter.unusedSimpArgs false
set_option linter.unusedVariables false
namespace Go.Proofs.YtgjokhodccacoaaDoor
open Go.RowKit Go.Vm
def turnsN:List Nat:=[0,32773,32783,10,32795,30,20,32785,32819,54,60,32825,40,32813,32807,34]
def tN (i:Nat):Nat:=turnsN.getD i 0
def nib (c h:Nat):Nat:=(c * 16 % 65536) ^^^ tN ((c / 4096) ^^^ h)
def bitS (c b:Nat):Nat:=if c / 32768≠b then (2 * c % 65536) ^^^ 32773 else 2 * c % 65536
def bc (x c:Nat):Nat→Nat
 | 0=>c
 | j + 1=>bitS (bc x c j) (x / 2 ^ (7 - j) % 2)
theorem xor_16 {a b:Nat} (ha:a < 65536) (hb:b < 65536):a ^^^ b < 65536:=Nat.xor_lt_two_pow (n:=16) ha hb
theorem bitS_lt (c b:Nat):bitS c b < 65536:=by
 have h:=Nat.mod_lt (2 * c) (show 0 < 65536 by decide)
 unfold bitS
 split
 ·exact xor_16 h (by decide)
 ·exact h
theorem bitS_xor {c l b:Nat} (hl:l < 32768):bitS (c ^^^ l) b = bitS c b ^^^ (2 * l):=by
 have e1:(c ^^^ l) / 32768 = c / 32768:=by
  rw [show (32768:Nat) = 2 ^ 15 from rfl,← Nat.shiftRight_eq_div_pow,Nat.shiftRight_xor_distrib,Nat.shiftRight_eq_div_pow,Nat.shiftRight_eq_div_pow,Nat.div_eq_of_lt hl,Nat.xor_zero]
 have e2:2 * (c ^^^ l) % 65536 = (2 * c % 65536) ^^^ (2 * l):=by
  rw [show 2 * (c ^^^ l) = (c ^^^ l) <<< 1 by rw [Nat.shiftLeft_eq]; omega,Nat.shiftLeft_xor_distrib,show (65536:Nat) = 2 ^ 16 from rfl,Nat.xor_mod_two_pow,Nat.shiftLeft_eq,Nat.shiftLeft_eq,Nat.mod_eq_of_lt (show l * 2 ^ 1 < 2 ^ 16 by omega),Nat.mul_comm c,Nat.mul_comm l]
 unfold bitS
 rw [e1,e2]
 split
 ·rw [Nat.xor_assoc,Nat.xor_comm (2 * l),← Nat.xor_assoc]
 ·rfl
def bit4 (c h:Nat):Nat:=bitS (bitS (bitS (bitS c (h / 8 % 2)) (h / 4 % 2)) (h / 2 % 2)) (h % 2)
theorem bit4_xor {c l h:Nat} (hl:l < 4096):bit4 (c ^^^ l) h = bit4 c h ^^^ (16 * l):=by
 unfold bit4
 rw [bitS_xor (by omega),bitS_xor (by omega),bitS_xor (by omega),bitS_xor (by omega)]
 congr 1
 omega
theorem bit4_tab : ∀ t,t < 16→∀ h,h < 16→bit4 (4096 * t) h = tN (t ^^^ h):=by decide
theorem split_xor {c:Nat}:c = (4096 * (c / 4096)) ^^^ (c % 4096):=by
 have h1:c % 4096 < 4096:=Nat.mod_lt _ (by decide)
 have e1:((4096 * (c / 4096)) ^^^ (c % 4096)) / 4096 = c / 4096:=by
  rw [show ((4096 * (c / 4096)) ^^^ (c % 4096)) / 4096 = ((4096 * (c / 4096)) ^^^ (c % 4096)) >>> 12 by rw [Nat.shiftRight_eq_div_pow],Nat.shiftRight_xor_distrib,Nat.shiftRight_eq_div_pow,Nat.shiftRight_eq_div_pow,Nat.div_eq_of_lt (show c % 4096 < 2 ^ 12 from h1),Nat.xor_zero]
  omega
 have e2:((4096 * (c / 4096)) ^^^ (c % 4096)) % 4096 = c % 4096:=by
  have:=Nat.xor_mod_two_pow (a:=4096 * (c / 4096)) (b:=c % 4096) (n:=12)
  rw [show (2:Nat) ^ 12 = 4096 from rfl] at this
  rw [this,show 4096 * (c / 4096) % 4096 = 0 by omega,Nat.zero_xor]
  omega
 generalize (4096 * (c / 4096)) ^^^ (c % 4096) = y at *
 omega
theorem nib_bit {c h:Nat} (hc:c < 65536) (hh:h < 16):nib c h = bit4 c h:=by
 have h1:c % 4096 < 4096:=Nat.mod_lt _ (by decide)
 have e:bit4 c h = tN ((c / 4096) ^^^ h) ^^^ (16 * (c % 4096)):=by
  have:=bit4_xor (c:=4096 * (c / 4096)) (h:=h) h1
  rw [← split_xor] at this
  rw [this,bit4_tab _ (by omega) _ hh]
 rw [e,nib,Nat.xor_comm]
 congr 1
 omega
theorem bc_8 {x c:Nat} (hx:x < 256) (hc:c < 65536):bc x c 8 = nib (nib c (x / 16)) (x % 16):=by
 have h1:nib c (x / 16) < 65536:=by rw [nib_bit hc (by omega)]; exact bitS_lt _ _
 rw [nib_bit h1 (by omega),nib_bit hc (by omega)]
 unfold bit4
 have e1:x / 16 / 8 % 2 = x / 2 ^ 7 % 2:=by omega
 have e2:x / 16 / 4 % 2 = x / 2 ^ 6 % 2:=by omega
 have e3:x / 16 / 2 % 2 = x / 2 ^ 5 % 2:=by omega
 have e4:x / 16 % 2 = x / 2 ^ 4 % 2:=by omega
 have e5:x % 16 / 8 % 2 = x / 2 ^ 3 % 2:=by omega
 have e6:x % 16 / 4 % 2 = x / 2 ^ 2 % 2:=by omega
 have e7:x % 16 / 2 % 2 = x / 2 ^ 1 % 2:=by omega
 have e8:x % 16 % 2 = x / 2 ^ 0 % 2:=by omega
 rw [e1,e2,e3,e4,e5,e6,e7,e8]
 rfl
theorem bc_lt {x c:Nat} (hc:c < 65536) : ∀ j,bc x c j < 65536
 | 0=>hc
 | j + 1=>bitS_lt _ _
theorem nib_lt {c h:Nat} (hc:c < 65536) (hh:h < 16):nib c h < 65536:=by rw [nib_bit hc hh]; exact bitS_lt _ _
def crcF (xs:List Int):Nat→Nat
 | 0=>65535
 | i + 1=>bc (nth xs i).toNat (crcF xs i) 8
theorem crc_lt {xs:List Int} : ∀ i,crcF xs i < 65536
 | 0=>(by show 65535 < 65536; decide)
 | i + 1=>bc_lt (crc_lt i) 8
def crc (xs:List Int):Nat:=crcF xs xs.length
theorem bt_xor {a b:Nat} (ha:a < 9223372036854775808) (hb:b < 9223372036854775808):btI .xor .i64 (a:Int) (b:Int) = ((a ^^^ b:Nat):Int):=by
 have h:=Nat.xor_lt_two_pow (n:=63) ha hb
 show IntKind.i64.wrap _ = _
 rw [show IntKind.i64.bits = 64 from rfl,BitVec.ofInt_natCast,BitVec.ofInt_natCast,BitVec.toNat_xor,BitVec.toNat_ofNat,BitVec.toNat_ofNat,Nat.mod_eq_of_lt (by omega),Nat.mod_eq_of_lt (by omega),wrap_nat (by omega)]
theorem bt_and16 {a:Nat} (ha:a < 9223372036854775808):btI .and .i64 (a:Int) 65535 = ((a % 65536:Nat):Int):=by
 show IntKind.i64.wrap _ = _
 rw [show IntKind.i64.bits = 64 from rfl,show (65535:Int) = ((65535:Nat):Int) from rfl,BitVec.ofInt_natCast,BitVec.ofInt_natCast,BitVec.toNat_and,BitVec.toNat_ofNat,BitVec.toNat_ofNat]
 have:a % 2 ^ 64 &&& 65535 % 2 ^ 64 = a % 65536:=by
  rw [Nat.mod_eq_of_lt (by omega:a < 2 ^ 64),show 65535 % 2 ^ 64 = 2 ^ 16 - 1 from rfl,Nat.and_two_pow_sub_one_eq_mod]
 rw [this,wrap_nat (by omega)]
theorem and15 {c:Int} (h0:0≤c) (h1:c≤255):btI .and .u8 c 15 = c % 16:=by
 obtain ⟨n,rfl⟩:=Int.eq_ofNat_of_zero_le h0
 show IntKind.u8.wrap _ = _
 rw [show IntKind.u8.bits = 8 from rfl,show (15:Int) = ((15:Nat):Int) from rfl,BitVec.ofInt_natCast,BitVec.ofInt_natCast,BitVec.toNat_and,BitVec.toNat_ofNat,BitVec.toNat_ofNat]
 have:n % 2 ^ 8 &&& 15 % 2 ^ 8 = n % 16:=by
  rw [Nat.mod_eq_of_lt (by omega:n < 2 ^ 8),show 15 % 2 ^ 8 = 2 ^ 4 - 1 from rfl,Nat.and_two_pow_sub_one_eq_mod]
 rw [this,wrap_inR (by rw [inR_u8]; omega)]
 omega
theorem shl4 {a:Nat} (h1:a < 65536):shI .shl .i64 (a:Int) 4 = ((a * 16:Nat):Int):=by
 show IntKind.i64.wrap ((a:Int) * 2 ^ (min (4:Int).toNat 64)) = _
 rw [show (min (4:Int).toNat 64) = 4 from rfl,show (2:Int) ^ 4 = 16 from rfl]
 exact (wrap_inR (by rw [inR_i64]; omega)).trans (by simp)
theorem shr12 {a:Nat}:shI .shr .i64 (a:Int) 12 = ((a / 4096:Nat):Int):=by
 show (a:Int).fdiv (2 ^ (min (12:Int).toNat 64)) = _
 rw [show (min (12:Int).toNat 64) = 12 from rfl,show (2:Int) ^ 12 = 4096 from rfl,Int.fdiv_eq_ediv_of_nonneg _ (by decide)]
 simp
theorem shr4 {a:Int}:shI .shr .u8 a 4 = a / 16:=by
 show a.fdiv (2 ^ (min (4:Int).toNat 8)) = _
 rw [show (min (4:Int).toNat 8) = 4 from rfl,show (2:Int) ^ 4 = 16 from rfl,Int.fdiv_eq_ediv_of_nonneg _ (by decide)]
theorem shrk {a k:Nat} (hk:k≤7):shI .shr .i64 (a:Int) (k:Int) = ((a / 2 ^ k:Nat):Int):=by
 show (a:Int).fdiv (2 ^ (min (k:Int).toNat 64)) = _
 have h2:(0:Int)≤2 ^ k:=Int.le_of_lt (Int.pow_pos (by decide))
 rw [show (min (k:Int).toNat 64) = k by rw [Int.toNat_natCast]; omega,Int.fdiv_eq_ediv_of_nonneg _ h2]
 simp
theorem turns_at {i:Nat} (h:i < 16):turnsL[i]? = some (tN i:Int):=by
 have : ∀ i,i < 16→turnsL[i]? = some (tN i:Int):=by decide
 exact this i h
end Go.Proofs.YtgjokhodccacoaaDoor
