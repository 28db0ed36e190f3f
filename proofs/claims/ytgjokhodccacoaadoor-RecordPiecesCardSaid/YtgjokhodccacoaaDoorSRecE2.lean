import Derived.Test.YtgjokhodccacoaaDoorSMe
import Derived.Test.YtgjokhodccacoaaDoorSRecY4
import Derived.Deep.SlicePairs
set_option linter.unusedSimpArgs false
set_option linter.unusedVariables false
namespace Go.Proofs.YtgjokhodccacoaaDoor
open Go.RowKit Go.Vm Go.Deep Go.ChangeShapes Go.WideShapes
end Go.Proofs.YtgjokhodccacoaaDoor
set_option linter.unusedSimpArgs false
set_option linter.unusedVariables false
namespace Go.Proofs.YtgjokhodccacoaaDoor
open Go.RowKit Go.Vm Go.Deep Go.ChangeShapes Go.WideShapes
set_option maxRecDepth 100000
abbrev PF:=Int×List Int×Nat
structure Fw where
 kind:Int
 B:Option Addr
 m:Nat
 d:Nat
 xs:List Int
structure FwOK (w:World) (f:Fw):Prop where
 row:Row w f.B f.m f.d (rows eB f.xs)
 len:f.xs.length = f.m
 cap:f.m≤f.d
 isb:isB f.xs
 kd : -9223372036854775808≤f.kind∧f.kind≤9223372036854775807
end Go.Proofs.YtgjokhodccacoaaDoor
