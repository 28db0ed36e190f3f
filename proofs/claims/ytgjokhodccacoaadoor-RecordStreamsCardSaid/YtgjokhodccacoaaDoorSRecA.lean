import Derived.Test.YtgjokhodccacoaaDoorSRecKv
import Derived.Test.YtgjokhodccacoaaDoorSMp
import Derived.Test.YtgjokhodccacoaaDoorSMe
import Derived.KernelRfl
set_option linter.unusedSimpArgs false
set_option linter.unusedVariables false
namespace Go.Proofs.YtgjokhodccacoaaDoor
open Go.RowKit Go.Vm
set_option maxRecDepth 1000000 in
theorem pok:POk Tryd.prog:=⟨t_mixed,t_names⟩
theorem knownT {h:AH}:Fc Tryd.prog 19 [] h (.bool true) h :=
 Fc.ofPlain rfl ⟨_,_,Tryd.func19,rfl⟩ fun w0 φ κ w R ha=>known_any w R.below.now
abbrev eN (n:Int):List Value:=[.int .i64 n]
instance flN:FlatE eN 1:=⟨fun _=>rfl,fun _=>rfl,fun _=>rfl⟩
abbrev sO (k n:Nat):Value:=.slice (some ⟨k,0,none⟩) n openB
set_option maxRecDepth 100000
end Go.Proofs.YtgjokhodccacoaaDoor
