import Derived.Test.YtgjokhodccacoaaDoorSRecW8
set_option linter.unusedSimpArgs false
set_option linter.unusedVariables false
namespace Go.Proofs.YtgjokhodccacoaaDoor
open Go.RowKit Go.Vm
end Go.Proofs.YtgjokhodccacoaaDoor
set_option linter.unusedSimpArgs false
set_option linter.unusedVariables false
namespace Go.Proofs.YtgjokhodccacoaaDoor
open Go.RowKit Go.Vm
set_option maxRecDepth 100000
theorem nG_congr {xs ys:List Int} {a b:Nat} : ∀ k,(∀ j,j < k→nth xs (a + j) = nth ys (b + j))→nG xs a k = nG ys b k
 | 0,_=>rfl
 | k + 1,h=>by
  show nG xs a k * 128 + nth xs (a + k) % 128 = nG ys b k * 128 + nth ys (b + k) % 128
  rw [nG_congr k (fun j hj=>h j (by omega)),h k (by omega)]
structure GrP (N m:Nat) (G:List Int):Prop where
 val:(N:Int) = m * 128 ^ G.length + nG G 0 G.length
 big : ∀ j,j + 1 < G.length→128≤nth G j∧nth G j≤255
 pos:0 < G.length
 last:0≤nth G (G.length - 1)∧nth G (G.length - 1) < 128
 first:m = 0→nth G 0≠128
end Go.Proofs.YtgjokhodccacoaaDoor
