/-
  NARROWER THAN 'FOR EVERY INPUT', by the rows' own cells (each row's printed sentence says how): RecordChecks: laid · RecordGets: laid · RecordScans: laid · RecordLogs: laid · RecordReads: laid · RecordMaps: laid · RecordStreams: laid · RecordBursts: laid · RecordFinds: laid · RecordPieces: laid · RecordPuts: laid · RecordNumbers: laid · RecordTurns: laid · RecordTurned: laid · RecordBack: laid · RecordOneForm: laid.
  DERIVED. THE GIVEN ROWS OF THIS SEAT. 16 by the template 'for every input the law returns true; each argument reads behind the call as it read before'; 0 by the template 'total and deterministic' (their statements: YtgjokhodccacoaaDoorTotals.lean).
  GIVEN WITH THE SEED: the statements are not yours to turn. If you find one false, say at which input.
  Laid BY PROGRAM, IN A SANDBOX (cutbox-rows.mjs): the forced cells as the released guide's own fill.sh prints them over the translation 33bea8a43edbafcd… (all of the seat's roots in one cut). By AI agents, Wed Nov 11 2026. No macro, syntax, notation, axiom, sorry.
-/
import Derived.Test.YtgjokhodccacoaaDoorChecked
import GoSem.Claim
import GoSem.ClaimJoined
import GoSem.ClaimMapViews
import Derived.JoinedTies
import Derived.KernelRfl
namespace Go.Proofs.YtgjokhodccacoaaDoor
/- THE CELL 'sum', in the pinned program and in every row, IS THE sha256 OF THE DUMP (.gsa) THAT YtgjokhodccacoaaDoorProg.lean LOADS. Nothing in Lean hashes anything: it is a label: what it is worth is what the hold of that sum in a sandbox is worth. -/
noncomputable def Tryd.pinned : Pinned := { name := "ytgjokhodccacoaadoor", sum := "33bea8a43edbafcd939fe4f337b23244915d62fd4d32eb8a0ddcd081ff0a8573", checked := Tryd.checked }
namespace Rows
def none {H : Type} : Left H := { results := [], args := [] }

/- WHAT THE LISTED PACKAGE-LEVEL VARIABLES READ AS WHEN THE CALL BEGINS. Each datum BY PROGRAM (the guide's laid-datum.mjs) off the statement by which the dump's own 'gosem.cut.vars' lays the variable. In a bare row this is a premise. The card (YtgjokhodccacoaaDoorCards.lean) ties it to the program's text. -/
def laid_bytes_ErrTooLarge {H : Type} : DataW H := .iface "*errors.errorString" (.ptr (.agg [.lit (.string [98, 121, 116, 101, 115, 46, 66, 117, 102, 102, 101, 114, 58, 32, 116, 111, 111, 32, 108, 97, 114, 103, 101])]))
def laid_boule_record_turns {H : Type} : DataW H := .agg [.lit (.int .i64 0), .lit (.int .i64 32773), .lit (.int .i64 32783), .lit (.int .i64 10), .lit (.int .i64 32795), .lit (.int .i64 30), .lit (.int .i64 20), .lit (.int .i64 32785), .lit (.int .i64 32819), .lit (.int .i64 54), .lit (.int .i64 60), .lit (.int .i64 32825), .lit (.int .i64 40), .lit (.int .i64 32813), .lit (.int .i64 32807), .lit (.int .i64 34)]

/-- 'boulelaw06.RecordChecks': WHATEVER THE INPUT: true; the input reads as it did. -/
def recordChecksSpec : ChangeSpec := { name := "recordChecks", fn := fun _ => fun
  | [d1, d2] => { results := [.lit (.bool true)], args := [d1, d2] }
  | _ => none }
def recordChecksRow : OpenClaim := { program := "ytgjokhodccacoaadoor", sum := "33bea8a43edbafcd939fe4f337b23244915d62fd4d32eb8a0ddcd081ff0a8573", func := "boule/boulelaw06.RecordChecks", spec := "recordChecks", unfollowed := true, recurses := true, named := ["bytes.ErrTooLarge", "boule/record.turns"], apart := false, laid := [("bytes.ErrTooLarge", laid_bytes_ErrTooLarge), ("boule/record.turns", laid_boule_record_turns)] }
def RecordChecksSaid : Prop := recordChecksRow.holds Tryd.pinned (OpenSpec.ofChange recordChecksSpec)

/-- ITS FALSE NEIGHBOUR: 'it returns false'. Refute it at one input. -/
def recordChecksWrong : ChangeSpec := { name := "recordChecks", fn := fun _ => fun
  | [d1, d2] => { results := [.lit (.bool false)], args := [d1, d2] }
  | _ => none }
def RecordChecksWrongFalsely : Prop := recordChecksRow.holds Tryd.pinned (OpenSpec.ofChange recordChecksWrong)

/-- 'boulelaw06.RecordGets': WHATEVER THE INPUT: true; the input reads as it did. -/
def recordGetsSpec : ChangeSpec := { name := "recordGets", fn := fun _ => fun
  | [d1, d2] => { results := [.lit (.bool true)], args := [d1, d2] }
  | _ => none }
def recordGetsRow : OpenClaim := { program := "ytgjokhodccacoaadoor", sum := "33bea8a43edbafcd939fe4f337b23244915d62fd4d32eb8a0ddcd081ff0a8573", func := "boule/boulelaw06.RecordGets", spec := "recordGets", unfollowed := true, recurses := true, named := ["bytes.ErrTooLarge", "boule/record.turns"], apart := false, laid := [("bytes.ErrTooLarge", laid_bytes_ErrTooLarge), ("boule/record.turns", laid_boule_record_turns)] }
def RecordGetsSaid : Prop := recordGetsRow.holds Tryd.pinned (OpenSpec.ofChange recordGetsSpec)

/-- ITS FALSE NEIGHBOUR: 'it returns false'. Refute it at one input. -/
def recordGetsWrong : ChangeSpec := { name := "recordGets", fn := fun _ => fun
  | [d1, d2] => { results := [.lit (.bool false)], args := [d1, d2] }
  | _ => none }
def RecordGetsWrongFalsely : Prop := recordGetsRow.holds Tryd.pinned (OpenSpec.ofChange recordGetsWrong)

/-- 'boulelaw06.RecordScans': WHATEVER THE INPUT: true; the input reads as it did. -/
def recordScansSpec : ChangeSpec := { name := "recordScans", fn := fun _ => fun
  | [d] => { results := [.lit (.bool true)], args := [d] }
  | _ => none }
def recordScansRow : OpenClaim := { program := "ytgjokhodccacoaadoor", sum := "33bea8a43edbafcd939fe4f337b23244915d62fd4d32eb8a0ddcd081ff0a8573", func := "boule/boulelaw06.RecordScans", spec := "recordScans", unfollowed := true, recurses := true, named := ["bytes.ErrTooLarge", "boule/record.turns"], apart := false, laid := [("bytes.ErrTooLarge", laid_bytes_ErrTooLarge), ("boule/record.turns", laid_boule_record_turns)] }
def RecordScansSaid : Prop := recordScansRow.holds Tryd.pinned (OpenSpec.ofChange recordScansSpec)

/-- ITS FALSE NEIGHBOUR: 'it returns false'. Refute it at one input. -/
def recordScansWrong : ChangeSpec := { name := "recordScans", fn := fun _ => fun
  | [d] => { results := [.lit (.bool false)], args := [d] }
  | _ => none }
def RecordScansWrongFalsely : Prop := recordScansRow.holds Tryd.pinned (OpenSpec.ofChange recordScansWrong)

/-- 'boulelaw06.RecordLogs': WHATEVER THE INPUT: true; the input reads as it did. -/
def recordLogsSpec : ChangeSpec := { name := "recordLogs", fn := fun _ => fun
  | [d] => { results := [.lit (.bool true)], args := [d] }
  | _ => none }
def recordLogsRow : OpenClaim := { program := "ytgjokhodccacoaadoor", sum := "33bea8a43edbafcd939fe4f337b23244915d62fd4d32eb8a0ddcd081ff0a8573", func := "boule/boulelaw06.RecordLogs", spec := "recordLogs", unfollowed := true, recurses := true, named := ["bytes.ErrTooLarge", "boule/record.turns"], apart := false, laid := [("bytes.ErrTooLarge", laid_bytes_ErrTooLarge), ("boule/record.turns", laid_boule_record_turns)] }
def RecordLogsSaid : Prop := recordLogsRow.holds Tryd.pinned (OpenSpec.ofChange recordLogsSpec)

/-- ITS FALSE NEIGHBOUR: 'it returns false'. Refute it at one input. -/
def recordLogsWrong : ChangeSpec := { name := "recordLogs", fn := fun _ => fun
  | [d] => { results := [.lit (.bool false)], args := [d] }
  | _ => none }
def RecordLogsWrongFalsely : Prop := recordLogsRow.holds Tryd.pinned (OpenSpec.ofChange recordLogsWrong)

/-- 'boulelaw06.RecordReads': WHATEVER THE INPUT: true; the input reads as it did. -/
def recordReadsSpec : ChangeSpec := { name := "recordReads", fn := fun _ => fun
  | [d] => { results := [.lit (.bool true)], args := [d] }
  | _ => none }
def recordReadsRow : OpenClaim := { program := "ytgjokhodccacoaadoor", sum := "33bea8a43edbafcd939fe4f337b23244915d62fd4d32eb8a0ddcd081ff0a8573", func := "boule/boulelaw06.RecordReads", spec := "recordReads", unfollowed := true, recurses := true, named := ["bytes.ErrTooLarge", "boule/record.turns"], apart := false, laid := [("bytes.ErrTooLarge", laid_bytes_ErrTooLarge), ("boule/record.turns", laid_boule_record_turns)] }
def RecordReadsSaid : Prop := recordReadsRow.holds Tryd.pinned (OpenSpec.ofChange recordReadsSpec)

/-- ITS FALSE NEIGHBOUR: 'it returns false'. Refute it at one input. -/
def recordReadsWrong : ChangeSpec := { name := "recordReads", fn := fun _ => fun
  | [d] => { results := [.lit (.bool false)], args := [d] }
  | _ => none }
def RecordReadsWrongFalsely : Prop := recordReadsRow.holds Tryd.pinned (OpenSpec.ofChange recordReadsWrong)

/-- 'boulelaw06.RecordMaps': WHATEVER THE INPUT: true; the input reads as it did. -/
def recordMapsSpec : ChangeSpec := { name := "recordMaps", fn := fun _ => fun
  | [d] => { results := [.lit (.bool true)], args := [d] }
  | _ => none }
def recordMapsRow : OpenClaim := { program := "ytgjokhodccacoaadoor", sum := "33bea8a43edbafcd939fe4f337b23244915d62fd4d32eb8a0ddcd081ff0a8573", func := "boule/boulelaw06.RecordMaps", spec := "recordMaps", unfollowed := true, recurses := true, named := ["bytes.ErrTooLarge", "boule/record.turns"], apart := false, laid := [("bytes.ErrTooLarge", laid_bytes_ErrTooLarge), ("boule/record.turns", laid_boule_record_turns)] }
def RecordMapsSaid : Prop := recordMapsRow.holds Tryd.pinned (OpenSpec.ofChange recordMapsSpec)

/-- ITS FALSE NEIGHBOUR: 'it returns false'. Refute it at one input. -/
def recordMapsWrong : ChangeSpec := { name := "recordMaps", fn := fun _ => fun
  | [d] => { results := [.lit (.bool false)], args := [d] }
  | _ => none }
def RecordMapsWrongFalsely : Prop := recordMapsRow.holds Tryd.pinned (OpenSpec.ofChange recordMapsWrong)

/-- 'boulelaw06.RecordStreams': WHATEVER THE INPUT: true; the input reads as it did. -/
def recordStreamsSpec : ChangeSpec := { name := "recordStreams", fn := fun _ => fun
  | [d] => { results := [.lit (.bool true)], args := [d] }
  | _ => none }
def recordStreamsRow : OpenClaim := { program := "ytgjokhodccacoaadoor", sum := "33bea8a43edbafcd939fe4f337b23244915d62fd4d32eb8a0ddcd081ff0a8573", func := "boule/boulelaw06.RecordStreams", spec := "recordStreams", unfollowed := true, recurses := true, named := ["bytes.ErrTooLarge", "boule/record.turns"], apart := false, laid := [("bytes.ErrTooLarge", laid_bytes_ErrTooLarge), ("boule/record.turns", laid_boule_record_turns)] }
def RecordStreamsSaid : Prop := recordStreamsRow.holds Tryd.pinned (OpenSpec.ofChange recordStreamsSpec)

/-- ITS FALSE NEIGHBOUR: 'it returns false'. Refute it at one input. -/
def recordStreamsWrong : ChangeSpec := { name := "recordStreams", fn := fun _ => fun
  | [d] => { results := [.lit (.bool false)], args := [d] }
  | _ => none }
def RecordStreamsWrongFalsely : Prop := recordStreamsRow.holds Tryd.pinned (OpenSpec.ofChange recordStreamsWrong)

/-- 'boulelaw06.RecordBursts': WHATEVER THE INPUT: true; the input reads as it did. -/
def recordBurstsSpec : ChangeSpec := { name := "recordBursts", fn := fun _ => fun
  | [d1, d2] => { results := [.lit (.bool true)], args := [d1, d2] }
  | _ => none }
def recordBurstsRow : OpenClaim := { program := "ytgjokhodccacoaadoor", sum := "33bea8a43edbafcd939fe4f337b23244915d62fd4d32eb8a0ddcd081ff0a8573", func := "boule/boulelaw06.RecordBursts", spec := "recordBursts", unfollowed := true, recurses := true, named := ["bytes.ErrTooLarge", "boule/record.turns"], apart := false, laid := [("bytes.ErrTooLarge", laid_bytes_ErrTooLarge), ("boule/record.turns", laid_boule_record_turns)] }
def RecordBurstsSaid : Prop := recordBurstsRow.holds Tryd.pinned (OpenSpec.ofChange recordBurstsSpec)

/-- ITS FALSE NEIGHBOUR: 'it returns false'. Refute it at one input. -/
def recordBurstsWrong : ChangeSpec := { name := "recordBursts", fn := fun _ => fun
  | [d1, d2] => { results := [.lit (.bool false)], args := [d1, d2] }
  | _ => none }
def RecordBurstsWrongFalsely : Prop := recordBurstsRow.holds Tryd.pinned (OpenSpec.ofChange recordBurstsWrong)

/-- 'boulelaw06.RecordFinds': WHATEVER THE INPUT: true; the input reads as it did. -/
def recordFindsSpec : ChangeSpec := { name := "recordFinds", fn := fun _ => fun
  | [d1, d2] => { results := [.lit (.bool true)], args := [d1, d2] }
  | _ => none }
def recordFindsRow : OpenClaim := { program := "ytgjokhodccacoaadoor", sum := "33bea8a43edbafcd939fe4f337b23244915d62fd4d32eb8a0ddcd081ff0a8573", func := "boule/boulelaw06.RecordFinds", spec := "recordFinds", unfollowed := true, recurses := true, named := ["bytes.ErrTooLarge", "boule/record.turns"], apart := false, laid := [("bytes.ErrTooLarge", laid_bytes_ErrTooLarge), ("boule/record.turns", laid_boule_record_turns)] }
def RecordFindsSaid : Prop := recordFindsRow.holds Tryd.pinned (OpenSpec.ofChange recordFindsSpec)

/-- ITS FALSE NEIGHBOUR: 'it returns false'. Refute it at one input. -/
def recordFindsWrong : ChangeSpec := { name := "recordFinds", fn := fun _ => fun
  | [d1, d2] => { results := [.lit (.bool false)], args := [d1, d2] }
  | _ => none }
def RecordFindsWrongFalsely : Prop := recordFindsRow.holds Tryd.pinned (OpenSpec.ofChange recordFindsWrong)

/-- 'boulelaw06.RecordPieces': WHATEVER THE INPUT: true; the input reads as it did. -/
def recordPiecesSpec : ChangeSpec := { name := "recordPieces", fn := fun _ => fun
  | [d1, d2] => { results := [.lit (.bool true)], args := [d1, d2] }
  | _ => none }
def recordPiecesRow : OpenClaim := { program := "ytgjokhodccacoaadoor", sum := "33bea8a43edbafcd939fe4f337b23244915d62fd4d32eb8a0ddcd081ff0a8573", func := "boule/boulelaw06.RecordPieces", spec := "recordPieces", unfollowed := true, recurses := true, named := ["bytes.ErrTooLarge", "boule/record.turns"], apart := false, laid := [("bytes.ErrTooLarge", laid_bytes_ErrTooLarge), ("boule/record.turns", laid_boule_record_turns)] }
def RecordPiecesSaid : Prop := recordPiecesRow.holds Tryd.pinned (OpenSpec.ofChange recordPiecesSpec)

/-- ITS FALSE NEIGHBOUR: 'it returns false'. Refute it at one input. -/
def recordPiecesWrong : ChangeSpec := { name := "recordPieces", fn := fun _ => fun
  | [d1, d2] => { results := [.lit (.bool false)], args := [d1, d2] }
  | _ => none }
def RecordPiecesWrongFalsely : Prop := recordPiecesRow.holds Tryd.pinned (OpenSpec.ofChange recordPiecesWrong)

/-- 'boulelaw06.RecordPuts': WHATEVER THE INPUT: true; the input reads as it did. -/
def recordPutsSpec : ChangeSpec := { name := "recordPuts", fn := fun _ => fun
  | [d] => { results := [.lit (.bool true)], args := [d] }
  | _ => none }
def recordPutsRow : OpenClaim := { program := "ytgjokhodccacoaadoor", sum := "33bea8a43edbafcd939fe4f337b23244915d62fd4d32eb8a0ddcd081ff0a8573", func := "boule/boulelaw06.RecordPuts", spec := "recordPuts", unfollowed := true, recurses := true, named := ["bytes.ErrTooLarge", "boule/record.turns"], apart := false, laid := [("bytes.ErrTooLarge", laid_bytes_ErrTooLarge), ("boule/record.turns", laid_boule_record_turns)] }
def RecordPutsSaid : Prop := recordPutsRow.holds Tryd.pinned (OpenSpec.ofChange recordPutsSpec)

/-- ITS FALSE NEIGHBOUR: 'it returns false'. Refute it at one input. -/
def recordPutsWrong : ChangeSpec := { name := "recordPuts", fn := fun _ => fun
  | [d] => { results := [.lit (.bool false)], args := [d] }
  | _ => none }
def RecordPutsWrongFalsely : Prop := recordPutsRow.holds Tryd.pinned (OpenSpec.ofChange recordPutsWrong)

/-- 'boulelaw06.RecordNumbers': WHATEVER THE INPUT: true; the input reads as it did. -/
def recordNumbersSpec : ChangeSpec := { name := "recordNumbers", fn := fun _ => fun
  | [d1, d2] => { results := [.lit (.bool true)], args := [d1, d2] }
  | _ => none }
def recordNumbersRow : OpenClaim := { program := "ytgjokhodccacoaadoor", sum := "33bea8a43edbafcd939fe4f337b23244915d62fd4d32eb8a0ddcd081ff0a8573", func := "boule/boulelaw06.RecordNumbers", spec := "recordNumbers", unfollowed := true, recurses := true, named := ["bytes.ErrTooLarge", "boule/record.turns"], apart := false, laid := [("bytes.ErrTooLarge", laid_bytes_ErrTooLarge), ("boule/record.turns", laid_boule_record_turns)] }
def RecordNumbersSaid : Prop := recordNumbersRow.holds Tryd.pinned (OpenSpec.ofChange recordNumbersSpec)

/-- ITS FALSE NEIGHBOUR: 'it returns false'. Refute it at one input. -/
def recordNumbersWrong : ChangeSpec := { name := "recordNumbers", fn := fun _ => fun
  | [d1, d2] => { results := [.lit (.bool false)], args := [d1, d2] }
  | _ => none }
def RecordNumbersWrongFalsely : Prop := recordNumbersRow.holds Tryd.pinned (OpenSpec.ofChange recordNumbersWrong)

/-- 'boulelaw06.RecordTurns': WHATEVER THE INPUT: true; the input reads as it did. -/
def recordTurnsSpec : ChangeSpec := { name := "recordTurns", fn := fun _ => fun
  | [d1, d2, d3] => { results := [.lit (.bool true)], args := [d1, d2, d3] }
  | _ => none }
def recordTurnsRow : OpenClaim := { program := "ytgjokhodccacoaadoor", sum := "33bea8a43edbafcd939fe4f337b23244915d62fd4d32eb8a0ddcd081ff0a8573", func := "boule/boulelaw06.RecordTurns", spec := "recordTurns", unfollowed := true, recurses := true, named := ["bytes.ErrTooLarge", "boule/record.turns"], apart := false, laid := [("bytes.ErrTooLarge", laid_bytes_ErrTooLarge), ("boule/record.turns", laid_boule_record_turns)] }
def RecordTurnsSaid : Prop := recordTurnsRow.holds Tryd.pinned (OpenSpec.ofChange recordTurnsSpec)

/-- ITS FALSE NEIGHBOUR: 'it returns false'. Refute it at one input. -/
def recordTurnsWrong : ChangeSpec := { name := "recordTurns", fn := fun _ => fun
  | [d1, d2, d3] => { results := [.lit (.bool false)], args := [d1, d2, d3] }
  | _ => none }
def RecordTurnsWrongFalsely : Prop := recordTurnsRow.holds Tryd.pinned (OpenSpec.ofChange recordTurnsWrong)

/-- 'boulelaw06.RecordTurned': WHATEVER THE INPUT: true; the input reads as it did. -/
def recordTurnedSpec : ChangeSpec := { name := "recordTurned", fn := fun _ => fun
  | [d1, d2, d3] => { results := [.lit (.bool true)], args := [d1, d2, d3] }
  | _ => none }
def recordTurnedRow : OpenClaim := { program := "ytgjokhodccacoaadoor", sum := "33bea8a43edbafcd939fe4f337b23244915d62fd4d32eb8a0ddcd081ff0a8573", func := "boule/boulelaw06.RecordTurned", spec := "recordTurned", unfollowed := true, recurses := true, named := ["bytes.ErrTooLarge", "boule/record.turns"], apart := false, laid := [("bytes.ErrTooLarge", laid_bytes_ErrTooLarge), ("boule/record.turns", laid_boule_record_turns)] }
def RecordTurnedSaid : Prop := recordTurnedRow.holds Tryd.pinned (OpenSpec.ofChange recordTurnedSpec)

/-- ITS FALSE NEIGHBOUR: 'it returns false'. Refute it at one input. -/
def recordTurnedWrong : ChangeSpec := { name := "recordTurned", fn := fun _ => fun
  | [d1, d2, d3] => { results := [.lit (.bool false)], args := [d1, d2, d3] }
  | _ => none }
def RecordTurnedWrongFalsely : Prop := recordTurnedRow.holds Tryd.pinned (OpenSpec.ofChange recordTurnedWrong)

/-- 'boulelaw06.RecordBack': WHATEVER THE INPUT: true; the input reads as it did. -/
def recordBackSpec : ChangeSpec := { name := "recordBack", fn := fun _ => fun
  | [d1, d2, d3] => { results := [.lit (.bool true)], args := [d1, d2, d3] }
  | _ => none }
def recordBackRow : OpenClaim := { program := "ytgjokhodccacoaadoor", sum := "33bea8a43edbafcd939fe4f337b23244915d62fd4d32eb8a0ddcd081ff0a8573", func := "boule/boulelaw06.RecordBack", spec := "recordBack", unfollowed := true, recurses := true, named := ["bytes.ErrTooLarge", "boule/record.turns"], apart := false, laid := [("bytes.ErrTooLarge", laid_bytes_ErrTooLarge), ("boule/record.turns", laid_boule_record_turns)] }
def RecordBackSaid : Prop := recordBackRow.holds Tryd.pinned (OpenSpec.ofChange recordBackSpec)

/-- ITS FALSE NEIGHBOUR: 'it returns false'. Refute it at one input. -/
def recordBackWrong : ChangeSpec := { name := "recordBack", fn := fun _ => fun
  | [d1, d2, d3] => { results := [.lit (.bool false)], args := [d1, d2, d3] }
  | _ => none }
def RecordBackWrongFalsely : Prop := recordBackRow.holds Tryd.pinned (OpenSpec.ofChange recordBackWrong)

/-- 'boulelaw06.RecordOneForm': WHATEVER THE INPUT: true; the input reads as it did. -/
def recordOneFormSpec : ChangeSpec := { name := "recordOneForm", fn := fun _ => fun
  | [d1, d2] => { results := [.lit (.bool true)], args := [d1, d2] }
  | _ => none }
def recordOneFormRow : OpenClaim := { program := "ytgjokhodccacoaadoor", sum := "33bea8a43edbafcd939fe4f337b23244915d62fd4d32eb8a0ddcd081ff0a8573", func := "boule/boulelaw06.RecordOneForm", spec := "recordOneForm", unfollowed := true, recurses := true, named := ["bytes.ErrTooLarge", "boule/record.turns"], apart := false, laid := [("bytes.ErrTooLarge", laid_bytes_ErrTooLarge), ("boule/record.turns", laid_boule_record_turns)] }
def RecordOneFormSaid : Prop := recordOneFormRow.holds Tryd.pinned (OpenSpec.ofChange recordOneFormSpec)

/-- ITS FALSE NEIGHBOUR: 'it returns false'. Refute it at one input. -/
def recordOneFormWrong : ChangeSpec := { name := "recordOneForm", fn := fun _ => fun
  | [d1, d2] => { results := [.lit (.bool false)], args := [d1, d2] }
  | _ => none }
def RecordOneFormWrongFalsely : Prop := recordOneFormRow.holds Tryd.pinned (OpenSpec.ofChange recordOneFormWrong)

/- THE SECOND FORM. 'bulk': how many values and letters a reading holds, each counted each time it is reached (what is shared counts as often as it is met; a slice's spare places count too). A statement '..UptoSaid' is the law's where the arguments, and the package variables that the reading takes, are together of bulk at most 1048576: NARROWER than '..Said'. Prove '..Said' where nothing that the law and all that it calls make is longer than what came in: it says more and counts as full. Else prove '..UptoSaid'. A law counts once. -/
mutual
def uptoBulk {H : Type} : DataW H → Nat
  | .lit (.string bytes) => bytes.length + 1
  | .lit _ => 1
  | .nil => 1
  | .ptr d => uptoBulk d + 1
  | .slice elems spare => uptoBulkAll elems + uptoBulkAll spare + 1
  | .agg parts => uptoBulkAll parts + 1
  | .iface _ d => uptoBulk d + 1
  | .map entries => uptoBulkEntries entries + 1
  | .held _ => 1
def uptoBulkAll {H : Type} : List (DataW H) → Nat
  | [] => 0
  | d :: r => uptoBulk d + uptoBulkAll r
def uptoBulkEntries {H : Type} : List (Lit × DataW H) → Nat
  | [] => 0
  | x :: r => uptoBulkEntry x + uptoBulkEntries r
def uptoBulkEntry {H : Type} : Lit × DataW H → Nat
  | (.string bytes, d) => bytes.length + uptoBulk d + 1
  | (_, d) => uptoBulk d + 1
 end
def uptoSmall : (H : Type) → List (DataW H) → Bool := fun _ ds => decide (uptoBulkAll ds ≤ 1048576)
def OpenSpec.upto (s : _root_.Go.ChangeSpec) : _root_.Go.OpenSpec := { _root_.Go.OpenSpec.ofChange s with cond := some uptoSmall }

/-- 'boulelaw06.RecordChecks', WHERE WHAT IT READS IS OF BULK AT MOST 1048576: true; the input reads as it did. -/
def recordChecksUptoRow : OpenClaim := { program := "ytgjokhodccacoaadoor", sum := "33bea8a43edbafcd939fe4f337b23244915d62fd4d32eb8a0ddcd081ff0a8573", func := "boule/boulelaw06.RecordChecks", spec := "recordChecks", unfollowed := true, recurses := true, named := ["bytes.ErrTooLarge", "boule/record.turns"], apart := false, laid := [("bytes.ErrTooLarge", laid_bytes_ErrTooLarge), ("boule/record.turns", laid_boule_record_turns)], narrowed := true }
def RecordChecksUptoSaid : Prop := recordChecksUptoRow.holds Tryd.pinned (OpenSpec.upto recordChecksSpec)

/-- 'boulelaw06.RecordGets', WHERE WHAT IT READS IS OF BULK AT MOST 1048576: true; the input reads as it did. -/
def recordGetsUptoRow : OpenClaim := { program := "ytgjokhodccacoaadoor", sum := "33bea8a43edbafcd939fe4f337b23244915d62fd4d32eb8a0ddcd081ff0a8573", func := "boule/boulelaw06.RecordGets", spec := "recordGets", unfollowed := true, recurses := true, named := ["bytes.ErrTooLarge", "boule/record.turns"], apart := false, laid := [("bytes.ErrTooLarge", laid_bytes_ErrTooLarge), ("boule/record.turns", laid_boule_record_turns)], narrowed := true }
def RecordGetsUptoSaid : Prop := recordGetsUptoRow.holds Tryd.pinned (OpenSpec.upto recordGetsSpec)

/-- 'boulelaw06.RecordScans', WHERE WHAT IT READS IS OF BULK AT MOST 1048576: true; the input reads as it did. -/
def recordScansUptoRow : OpenClaim := { program := "ytgjokhodccacoaadoor", sum := "33bea8a43edbafcd939fe4f337b23244915d62fd4d32eb8a0ddcd081ff0a8573", func := "boule/boulelaw06.RecordScans", spec := "recordScans", unfollowed := true, recurses := true, named := ["bytes.ErrTooLarge", "boule/record.turns"], apart := false, laid := [("bytes.ErrTooLarge", laid_bytes_ErrTooLarge), ("boule/record.turns", laid_boule_record_turns)], narrowed := true }
def RecordScansUptoSaid : Prop := recordScansUptoRow.holds Tryd.pinned (OpenSpec.upto recordScansSpec)

/-- 'boulelaw06.RecordLogs', WHERE WHAT IT READS IS OF BULK AT MOST 1048576: true; the input reads as it did. -/
def recordLogsUptoRow : OpenClaim := { program := "ytgjokhodccacoaadoor", sum := "33bea8a43edbafcd939fe4f337b23244915d62fd4d32eb8a0ddcd081ff0a8573", func := "boule/boulelaw06.RecordLogs", spec := "recordLogs", unfollowed := true, recurses := true, named := ["bytes.ErrTooLarge", "boule/record.turns"], apart := false, laid := [("bytes.ErrTooLarge", laid_bytes_ErrTooLarge), ("boule/record.turns", laid_boule_record_turns)], narrowed := true }
def RecordLogsUptoSaid : Prop := recordLogsUptoRow.holds Tryd.pinned (OpenSpec.upto recordLogsSpec)

/-- 'boulelaw06.RecordReads', WHERE WHAT IT READS IS OF BULK AT MOST 1048576: true; the input reads as it did. -/
def recordReadsUptoRow : OpenClaim := { program := "ytgjokhodccacoaadoor", sum := "33bea8a43edbafcd939fe4f337b23244915d62fd4d32eb8a0ddcd081ff0a8573", func := "boule/boulelaw06.RecordReads", spec := "recordReads", unfollowed := true, recurses := true, named := ["bytes.ErrTooLarge", "boule/record.turns"], apart := false, laid := [("bytes.ErrTooLarge", laid_bytes_ErrTooLarge), ("boule/record.turns", laid_boule_record_turns)], narrowed := true }
def RecordReadsUptoSaid : Prop := recordReadsUptoRow.holds Tryd.pinned (OpenSpec.upto recordReadsSpec)

/-- 'boulelaw06.RecordMaps', WHERE WHAT IT READS IS OF BULK AT MOST 1048576: true; the input reads as it did. -/
def recordMapsUptoRow : OpenClaim := { program := "ytgjokhodccacoaadoor", sum := "33bea8a43edbafcd939fe4f337b23244915d62fd4d32eb8a0ddcd081ff0a8573", func := "boule/boulelaw06.RecordMaps", spec := "recordMaps", unfollowed := true, recurses := true, named := ["bytes.ErrTooLarge", "boule/record.turns"], apart := false, laid := [("bytes.ErrTooLarge", laid_bytes_ErrTooLarge), ("boule/record.turns", laid_boule_record_turns)], narrowed := true }
def RecordMapsUptoSaid : Prop := recordMapsUptoRow.holds Tryd.pinned (OpenSpec.upto recordMapsSpec)

/-- 'boulelaw06.RecordStreams', WHERE WHAT IT READS IS OF BULK AT MOST 1048576: true; the input reads as it did. -/
def recordStreamsUptoRow : OpenClaim := { program := "ytgjokhodccacoaadoor", sum := "33bea8a43edbafcd939fe4f337b23244915d62fd4d32eb8a0ddcd081ff0a8573", func := "boule/boulelaw06.RecordStreams", spec := "recordStreams", unfollowed := true, recurses := true, named := ["bytes.ErrTooLarge", "boule/record.turns"], apart := false, laid := [("bytes.ErrTooLarge", laid_bytes_ErrTooLarge), ("boule/record.turns", laid_boule_record_turns)], narrowed := true }
def RecordStreamsUptoSaid : Prop := recordStreamsUptoRow.holds Tryd.pinned (OpenSpec.upto recordStreamsSpec)

/-- 'boulelaw06.RecordBursts', WHERE WHAT IT READS IS OF BULK AT MOST 1048576: true; the input reads as it did. -/
def recordBurstsUptoRow : OpenClaim := { program := "ytgjokhodccacoaadoor", sum := "33bea8a43edbafcd939fe4f337b23244915d62fd4d32eb8a0ddcd081ff0a8573", func := "boule/boulelaw06.RecordBursts", spec := "recordBursts", unfollowed := true, recurses := true, named := ["bytes.ErrTooLarge", "boule/record.turns"], apart := false, laid := [("bytes.ErrTooLarge", laid_bytes_ErrTooLarge), ("boule/record.turns", laid_boule_record_turns)], narrowed := true }
def RecordBurstsUptoSaid : Prop := recordBurstsUptoRow.holds Tryd.pinned (OpenSpec.upto recordBurstsSpec)

/-- 'boulelaw06.RecordFinds', WHERE WHAT IT READS IS OF BULK AT MOST 1048576: true; the input reads as it did. -/
def recordFindsUptoRow : OpenClaim := { program := "ytgjokhodccacoaadoor", sum := "33bea8a43edbafcd939fe4f337b23244915d62fd4d32eb8a0ddcd081ff0a8573", func := "boule/boulelaw06.RecordFinds", spec := "recordFinds", unfollowed := true, recurses := true, named := ["bytes.ErrTooLarge", "boule/record.turns"], apart := false, laid := [("bytes.ErrTooLarge", laid_bytes_ErrTooLarge), ("boule/record.turns", laid_boule_record_turns)], narrowed := true }
def RecordFindsUptoSaid : Prop := recordFindsUptoRow.holds Tryd.pinned (OpenSpec.upto recordFindsSpec)

/-- 'boulelaw06.RecordPieces', WHERE WHAT IT READS IS OF BULK AT MOST 1048576: true; the input reads as it did. -/
def recordPiecesUptoRow : OpenClaim := { program := "ytgjokhodccacoaadoor", sum := "33bea8a43edbafcd939fe4f337b23244915d62fd4d32eb8a0ddcd081ff0a8573", func := "boule/boulelaw06.RecordPieces", spec := "recordPieces", unfollowed := true, recurses := true, named := ["bytes.ErrTooLarge", "boule/record.turns"], apart := false, laid := [("bytes.ErrTooLarge", laid_bytes_ErrTooLarge), ("boule/record.turns", laid_boule_record_turns)], narrowed := true }
def RecordPiecesUptoSaid : Prop := recordPiecesUptoRow.holds Tryd.pinned (OpenSpec.upto recordPiecesSpec)

/-- 'boulelaw06.RecordPuts', WHERE WHAT IT READS IS OF BULK AT MOST 1048576: true; the input reads as it did. -/
def recordPutsUptoRow : OpenClaim := { program := "ytgjokhodccacoaadoor", sum := "33bea8a43edbafcd939fe4f337b23244915d62fd4d32eb8a0ddcd081ff0a8573", func := "boule/boulelaw06.RecordPuts", spec := "recordPuts", unfollowed := true, recurses := true, named := ["bytes.ErrTooLarge", "boule/record.turns"], apart := false, laid := [("bytes.ErrTooLarge", laid_bytes_ErrTooLarge), ("boule/record.turns", laid_boule_record_turns)], narrowed := true }
def RecordPutsUptoSaid : Prop := recordPutsUptoRow.holds Tryd.pinned (OpenSpec.upto recordPutsSpec)

/-- 'boulelaw06.RecordNumbers', WHERE WHAT IT READS IS OF BULK AT MOST 1048576: true; the input reads as it did. -/
def recordNumbersUptoRow : OpenClaim := { program := "ytgjokhodccacoaadoor", sum := "33bea8a43edbafcd939fe4f337b23244915d62fd4d32eb8a0ddcd081ff0a8573", func := "boule/boulelaw06.RecordNumbers", spec := "recordNumbers", unfollowed := true, recurses := true, named := ["bytes.ErrTooLarge", "boule/record.turns"], apart := false, laid := [("bytes.ErrTooLarge", laid_bytes_ErrTooLarge), ("boule/record.turns", laid_boule_record_turns)], narrowed := true }
def RecordNumbersUptoSaid : Prop := recordNumbersUptoRow.holds Tryd.pinned (OpenSpec.upto recordNumbersSpec)

/-- 'boulelaw06.RecordTurns', WHERE WHAT IT READS IS OF BULK AT MOST 1048576: true; the input reads as it did. -/
def recordTurnsUptoRow : OpenClaim := { program := "ytgjokhodccacoaadoor", sum := "33bea8a43edbafcd939fe4f337b23244915d62fd4d32eb8a0ddcd081ff0a8573", func := "boule/boulelaw06.RecordTurns", spec := "recordTurns", unfollowed := true, recurses := true, named := ["bytes.ErrTooLarge", "boule/record.turns"], apart := false, laid := [("bytes.ErrTooLarge", laid_bytes_ErrTooLarge), ("boule/record.turns", laid_boule_record_turns)], narrowed := true }
def RecordTurnsUptoSaid : Prop := recordTurnsUptoRow.holds Tryd.pinned (OpenSpec.upto recordTurnsSpec)

/-- 'boulelaw06.RecordTurned', WHERE WHAT IT READS IS OF BULK AT MOST 1048576: true; the input reads as it did. -/
def recordTurnedUptoRow : OpenClaim := { program := "ytgjokhodccacoaadoor", sum := "33bea8a43edbafcd939fe4f337b23244915d62fd4d32eb8a0ddcd081ff0a8573", func := "boule/boulelaw06.RecordTurned", spec := "recordTurned", unfollowed := true, recurses := true, named := ["bytes.ErrTooLarge", "boule/record.turns"], apart := false, laid := [("bytes.ErrTooLarge", laid_bytes_ErrTooLarge), ("boule/record.turns", laid_boule_record_turns)], narrowed := true }
def RecordTurnedUptoSaid : Prop := recordTurnedUptoRow.holds Tryd.pinned (OpenSpec.upto recordTurnedSpec)

/-- 'boulelaw06.RecordBack', WHERE WHAT IT READS IS OF BULK AT MOST 1048576: true; the input reads as it did. -/
def recordBackUptoRow : OpenClaim := { program := "ytgjokhodccacoaadoor", sum := "33bea8a43edbafcd939fe4f337b23244915d62fd4d32eb8a0ddcd081ff0a8573", func := "boule/boulelaw06.RecordBack", spec := "recordBack", unfollowed := true, recurses := true, named := ["bytes.ErrTooLarge", "boule/record.turns"], apart := false, laid := [("bytes.ErrTooLarge", laid_bytes_ErrTooLarge), ("boule/record.turns", laid_boule_record_turns)], narrowed := true }
def RecordBackUptoSaid : Prop := recordBackUptoRow.holds Tryd.pinned (OpenSpec.upto recordBackSpec)

/-- 'boulelaw06.RecordOneForm', WHERE WHAT IT READS IS OF BULK AT MOST 1048576: true; the input reads as it did. -/
def recordOneFormUptoRow : OpenClaim := { program := "ytgjokhodccacoaadoor", sum := "33bea8a43edbafcd939fe4f337b23244915d62fd4d32eb8a0ddcd081ff0a8573", func := "boule/boulelaw06.RecordOneForm", spec := "recordOneForm", unfollowed := true, recurses := true, named := ["bytes.ErrTooLarge", "boule/record.turns"], apart := false, laid := [("bytes.ErrTooLarge", laid_bytes_ErrTooLarge), ("boule/record.turns", laid_boule_record_turns)], narrowed := true }
def RecordOneFormUptoSaid : Prop := recordOneFormUptoRow.holds Tryd.pinned (OpenSpec.upto recordOneFormSpec)

end Rows
end Go.Proofs.YtgjokhodccacoaaDoor
