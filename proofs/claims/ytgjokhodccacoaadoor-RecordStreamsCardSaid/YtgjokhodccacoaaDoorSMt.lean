import Derived.Below
set_option linter.unusedVariables false
namespace Go.Vm
open Go Go.RowKit
def turnsL:List Int:=[0,32773,32783,10,32795,30,20,32785,32819,54,60,32825,40,32813,32807,34]
def turnsG:Nat:=0
def Tab (w:World):Prop:=∀ j v,turnsL[j]? = some v→w.cell? ⟨turnsG,j,none⟩ = some (.int .i64 v)
theorem Tab.mono {w0 w:World} (h:Tab w0) (b:Below w0.heap.size w0 w):Tab w:=by
 intro j v hj
 have h1:=h j v hj
 have hb:turnsG < w0.heap.size:=World.block_lt_of_cell? _ _ h1
 rw [World.cell?_of_block (a:=⟨turnsG,j,none⟩) (b.block _ hb)]
 exact h1
def memConv (s d:Nat):Bool:=Nat.beq s 22 && Nat.beq d 9
def memFrz (s d:Nat):Bool:=Nat.beq s 22 && Nat.beq d 22
def memCmp (op:BinOp) (xt:Nat):Bool:=match op with
 | .eql=>Nat.beq xt 22 || Nat.beq xt 54
 | _=>false
end Go.Vm
