/-
  Plain words for chapter 7's account: marks, and what they count.
-/
import Derived.Test.YtlkfcbdbieenhaaCropWF
namespace Go.Proofs.Ytlkfcbdbieenhaa
open Go.RowKit

/-- The cut before a block, and the one behind it, at a place. -/
def cA (s3 : Int) (x : Bl) (i : Nat) : Bool := decide (max 0 (x.1 - s3) ≤ (i : Int)) && decide ((i : Int) < x.1)
def cB (s3 n : Int) (x : Bl) (i : Nat) : Bool := decide (x.2 ≤ (i : Int)) && decide ((i : Int) < min (x.2 + s3) n)
def goneF (s3 n : Int) (bs : List Bl) (i : Nat) : Bool := bs.any fun x => cA s3 x i || cB s3 n x i
def mkF (s3 n : Int) (bs : List Bl) (x : Bl) (j : Nat) (i : Nat) : Bool := goneF s3 n bs i || (decide (1 ≤ j) && cA s3 x i) || (decide (2 ≤ j) && cB s3 n x i)
theorem mkF_zero (s3 n : Int) (bs : List Bl) (x : Bl) : mkF s3 n bs x 0 = goneF s3 n bs := by funext i; simp [mkF]
theorem mkF_two (s3 n : Int) (bs : List Bl) (x : Bl) : mkF s3 n bs x 2 = goneF s3 n (bs ++ [x]) := by funext i; simp [mkF, goneF, Bool.or_assoc]
theorem mkF_one (s3 n : Int) (bs : List Bl) (x : Bl) (i : Nat) : mkF s3 n bs x 1 i = (mkF s3 n bs x 0 i || cA s3 x i) := by simp [mkF]
theorem mkF_two' (s3 n : Int) (bs : List Bl) (x : Bl) (i : Nat) : mkF s3 n bs x 2 i = (mkF s3 n bs x 1 i || cB s3 n x i) := by simp [mkF]
/-- A row of marks. -/
def gnA (m : Nat → Bool) (n : Nat) : Array Value := ((List.range n).map fun i => Value.bool (m i)).toArray
theorem gnA_at (m : Nat → Bool) (n k : Nat) (h : k < n) : (gnA m n)[k]? = some (.bool (m k)) := by
  simp [gnA, h]
theorem gnA_set (m : Nat → Bool) (n k : Nat) : (gnA m n).setIfInBounds k (.bool true) = gnA (fun i => m i || decide (i = k)) n := by
  apply Array.ext'
  rw [Array.toList_setIfInBounds]
  simp only [gnA]
  apply List.ext_getElem?
  intro i
  rw [List.getElem?_set]
  simp only [List.getElem?_map, List.length_map, List.length_range]
  by_cases hi : i < n
  · rw [List.getElem?_range hi]
    by_cases hk : k = i
    · subst hk; simp [hi]
    · have : ¬ i = k := fun e => hk e.symm
      simp [hk, this]
  · by_cases hk : k = i
    · subst hk; simp [hi]
    · simp [hk, hi]
theorem gnA_zero (n : Nat) : gnA (fun _ => false) n = (List.replicate n (Value.bool false)).toArray := by
  unfold gnA
  congr 1
  apply List.ext_getElem?
  intro i
  simp only [List.getElem?_map, List.getElem?_replicate]
  by_cases hi : i < n
  · rw [List.getElem?_range hi]; simp [hi]
  · simp [hi]
/-- How many marks there are among the first places. -/
def kF (m : Nat → Bool) : Nat → Int
  | 0 => 0
  | n + 1 => kF m n + if m n then 1 else 0
theorem kF_bd (m : Nat → Bool) (n : Nat) : 0 ≤ kF m n ∧ kF m n ≤ n := by
  induction n with
  | zero => simp [kF]
  | succ n ih => unfold kF; split <;> omega
/-- How long blocks are. -/
def lnB (bs : List Bl) : Int := (bs.map fun x => x.2 - x.1).sum
theorem lnB_snoc (bs : List Bl) (x : Bl) : lnB (bs ++ [x]) = lnB bs + (x.2 - x.1) := by simp [lnB]
/-- What Account returns of a cropping. -/
def acF (s3 : Int) (n : Nat) (bs : List Bl) : Int × Int × Int :=
  (lnB bs, kF (goneF s3 n bs) n, n - (lnB bs + kF (goneF s3 n bs) n))
def acV (x : Int × Int × Int) : Value := .agg #[.int .i64 x.1, .int .i64 x.2.1, .int .i64 x.2.2]
/-- Blocks that lie within. -/
def inN (n : Int) (bs : List Bl) : Prop := ∀ x ∈ bs, 0 ≤ x.1 ∧ x.1 ≤ x.2 ∧ x.2 ≤ n
theorem lnB_bd {n : Int} {bs : List Bl} (h : inN n bs) : 0 ≤ lnB bs ∧ lnB bs ≤ n * bs.length := by
  induction bs with
  | nil => simp [lnB]
  | cons x bs ih =>
    have h1 := ih (fun y hy => h y (List.mem_cons_of_mem _ hy))
    have h2 := h x List.mem_cons_self
    simp only [lnB, List.map_cons, List.sum_cons, List.length_cons] at *
    have e : n * ((bs.length + 1 : Nat) : Int) = n * bs.length + n := by rw [Int.natCast_add, Int.mul_add]; simp
    omega

/-- What the loops of Account keep: the result, the boule, the row of marks, the account. -/
structure AC (w wr : World) (G C n : Nat) (s1 s2 s3 : Int) (A : Option Addr) (n5 cap5 : Nat) (m : Nat → Bool) (sb k t : Int) : Prop where
  bel : Below w.heap.size w wr
  low : w.heap.size + 1 < G ∧ G + 1 < C
  res : Bk wr (w.heap.size + 1) 45 #[.int .i64 0, .int .i64 0, .int .i64 0]
  bou : Bk wr G 108 #[.int .i64 s1, .int .i64 s2, .int .i64 s3, .slice A n5 cap5]
  gon : Bk wr (G + 1) 4 (gnA m n)
  cro : Bk wr C 45 #[.int .i64 sb, .int .i64 k, .int .i64 t]
section
variable {w wr W : World} {G C n : Nat} {s1 s2 s3 : Int} {A : Option Addr} {n5 cap5 : Nat} {m : Nat → Bool} {sb k t : Int}
theorem AC.below (h : AC w wr G C n s1 s2 s3 A n5 cap5 m sb k t) (hb : Below wr.heap.size wr W) : AC w W G C n s1 s2 s3 A n5 cap5 m sb k t :=
  ⟨thru h.bel hb, h.low, h.res.below hb h.res.lt, h.bou.below hb h.bou.lt, h.gon.below hb h.gon.lt, h.cro.below hb h.cro.lt⟩
theorem AC.cset (h : AC w wr G C n s1 s2 s3 A n5 cap5 m sb k t) (j : Nat) (u : Value) (sb' k' t' : Int) (e : #[Value.int .i64 sb, .int .i64 k, .int .i64 t].setIfInBounds j u = #[.int .i64 sb', .int .i64 k', .int .i64 t']) :
    AC w (wr.setCell ⟨C, j, none⟩ u) G C n s1 s2 s3 A n5 cap5 m sb' k' t' := by
  have hl := h.low
  exact ⟨bs h.bel (by simp; omega), h.low, h.res.other (by simp; omega) _, h.bou.other (by simp; omega) _, h.gon.other (by simp; omega) _, h.cro.put j _ _ e⟩
theorem AC.mark (h : AC w wr G C n s1 s2 s3 A n5 cap5 m sb k t) (j : Nat) (m' : Nat → Bool) (e : (fun i => m i || decide (i = j)) = m') :
    AC w (wr.setCell ⟨G + 1, j, none⟩ (.bool true)) G C n s1 s2 s3 A n5 cap5 m' sb k t := by
  have hl := h.low
  exact ⟨bs h.bel (by simp; omega), h.low, h.res.other (by simp; omega) _, h.bou.other (by simp <;> omega) _, h.gon.put j _ _ (by rw [gnA_set, e]), h.cro.other (by simp; omega) _⟩
theorem AC.one (h : AC w wr G C n s1 s2 s3 A n5 cap5 m sb k t) {p : Nat} (hp : p < n) : wr.cell? ⟨G + 1, p, none⟩ = some (.bool (m p)) := h.gon.cell (gnA_at m n p hp)
end
theorem infoBool : (Try.prog.info? 4).map (fun i => (i.zero, i.size, i.bytes)) = some (some (.bool false), 1, 1) := by kernel_rfl
theorem made_gn {w : World} {g n : Nat} (h : w.heap[g]? = some (.cells (madeCells (Value.cells (.bool false)) (n * 1)).toList.toArray 4 (0, 0))) : Bk w g 4 (gnA (fun _ => false) n) := by
  unfold Bk
  rw [h, gnA_zero]
  have : (madeCells (Value.cells (.bool false)) (n * 1)).toList = List.replicate n (Value.bool false) := by
    show (madeCells #[.bool false] (n * 1)).toList = _
    rw [toList_madeCells_one, Nat.mul_one]
  rw [this]
end Go.Proofs.Ytlkfcbdbieenhaa
