/-
  DERIVED. GIVEN WITH THE SEED: THE CARDS: each row of YtgjokhodccacoaaDoorRows.lean that lists a variable, with what it lists TIED to the program's text (the seventh form; the later family's looks); each row that meets fmt, with fmt's text TOLD by the authors' own Lean function (tested against real Go, not proved from fmt's source: count such statements apart). THE CARD IS WHAT COUNTS. Prove the row's statement (the work); the ties are given (YtgjokhodccacoaaDoorTie.lean); close each card by the builder's one call (the guide's Derived/Test/ToyasCard.lean, 'card_holds'). Laid BY PROGRAM, IN A SANDBOX (cutbox-door.mjs). By AI agents, Wed Nov 11 2026. No macro, syntax, notation, axiom, sorry.
-/
import Derived.Test.YtgjokhodccacoaaDoorRows
import GoSem.ClaimSeven
namespace Go.Proofs.YtgjokhodccacoaaDoor
namespace Rows

/-- THE TIED CARD OF 'boulelaw06.RecordChecks'. -/
def recordChecksCard : Claim7 := { stood := { row := recordChecksRow, standIns := [], harness := (true, "e87fbf8d0569de18fdda475ebe8eff6b1cab71c00a2475e5fe16bbd14d38446e"), looks := true }, kinds := [], alts := [], laidByText := true, laidKinds := [.sentinel, .data], laidTests := true, laidLooks := .later }
def RecordChecksCardSaid : Prop := Claim7.holds Tryd.pinned (.plain (OpenSpec.ofChange recordChecksSpec)) recordChecksCard

/-- THE TIED CARD OF 'boulelaw06.RecordGets'. -/
def recordGetsCard : Claim7 := { stood := { row := recordGetsRow, standIns := [], harness := (true, "e87fbf8d0569de18fdda475ebe8eff6b1cab71c00a2475e5fe16bbd14d38446e"), looks := true }, kinds := [], alts := [], laidByText := true, laidKinds := [.sentinel, .data], laidTests := true, laidLooks := .later }
def RecordGetsCardSaid : Prop := Claim7.holds Tryd.pinned (.plain (OpenSpec.ofChange recordGetsSpec)) recordGetsCard

/-- THE TIED CARD OF 'boulelaw06.RecordScans'. -/
def recordScansCard : Claim7 := { stood := { row := recordScansRow, standIns := [], harness := (true, "e87fbf8d0569de18fdda475ebe8eff6b1cab71c00a2475e5fe16bbd14d38446e"), looks := true }, kinds := [], alts := [], laidByText := true, laidKinds := [.sentinel, .data], laidTests := true, laidLooks := .later }
def RecordScansCardSaid : Prop := Claim7.holds Tryd.pinned (.plain (OpenSpec.ofChange recordScansSpec)) recordScansCard

/-- THE TIED CARD OF 'boulelaw06.RecordLogs'. -/
def recordLogsCard : Claim7 := { stood := { row := recordLogsRow, standIns := [], harness := (true, "e87fbf8d0569de18fdda475ebe8eff6b1cab71c00a2475e5fe16bbd14d38446e"), looks := true }, kinds := [], alts := [], laidByText := true, laidKinds := [.sentinel, .data], laidTests := true, laidLooks := .later }
def RecordLogsCardSaid : Prop := Claim7.holds Tryd.pinned (.plain (OpenSpec.ofChange recordLogsSpec)) recordLogsCard

/-- THE TIED CARD OF 'boulelaw06.RecordReads'. -/
def recordReadsCard : Claim7 := { stood := { row := recordReadsRow, standIns := [], harness := (true, "e87fbf8d0569de18fdda475ebe8eff6b1cab71c00a2475e5fe16bbd14d38446e"), looks := true }, kinds := [], alts := [], laidByText := true, laidKinds := [.sentinel, .data], laidTests := true, laidLooks := .later }
def RecordReadsCardSaid : Prop := Claim7.holds Tryd.pinned (.plain (OpenSpec.ofChange recordReadsSpec)) recordReadsCard

/-- THE TIED CARD OF 'boulelaw06.RecordMaps'. -/
def recordMapsCard : Claim7 := { stood := { row := recordMapsRow, standIns := [], harness := (true, "e87fbf8d0569de18fdda475ebe8eff6b1cab71c00a2475e5fe16bbd14d38446e"), looks := true }, kinds := [], alts := [], laidByText := true, laidKinds := [.sentinel, .data], laidTests := true, laidLooks := .later }
def RecordMapsCardSaid : Prop := Claim7.holds Tryd.pinned (.plain (OpenSpec.ofChange recordMapsSpec)) recordMapsCard

/-- THE TIED CARD OF 'boulelaw06.RecordStreams'. -/
def recordStreamsCard : Claim7 := { stood := { row := recordStreamsRow, standIns := [], harness := (true, "e87fbf8d0569de18fdda475ebe8eff6b1cab71c00a2475e5fe16bbd14d38446e"), looks := true }, kinds := [], alts := [], laidByText := true, laidKinds := [.sentinel, .data], laidTests := true, laidLooks := .later }
def RecordStreamsCardSaid : Prop := Claim7.holds Tryd.pinned (.plain (OpenSpec.ofChange recordStreamsSpec)) recordStreamsCard

/-- THE TIED CARD OF 'boulelaw06.RecordBursts'. -/
def recordBurstsCard : Claim7 := { stood := { row := recordBurstsRow, standIns := [], harness := (true, "e87fbf8d0569de18fdda475ebe8eff6b1cab71c00a2475e5fe16bbd14d38446e"), looks := true }, kinds := [], alts := [], laidByText := true, laidKinds := [.sentinel, .data], laidTests := true, laidLooks := .later }
def RecordBurstsCardSaid : Prop := Claim7.holds Tryd.pinned (.plain (OpenSpec.ofChange recordBurstsSpec)) recordBurstsCard

/-- THE TIED CARD OF 'boulelaw06.RecordFinds'. -/
def recordFindsCard : Claim7 := { stood := { row := recordFindsRow, standIns := [], harness := (true, "e87fbf8d0569de18fdda475ebe8eff6b1cab71c00a2475e5fe16bbd14d38446e"), looks := true }, kinds := [], alts := [], laidByText := true, laidKinds := [.sentinel, .data], laidTests := true, laidLooks := .later }
def RecordFindsCardSaid : Prop := Claim7.holds Tryd.pinned (.plain (OpenSpec.ofChange recordFindsSpec)) recordFindsCard

/-- THE TIED CARD OF 'boulelaw06.RecordPieces'. -/
def recordPiecesCard : Claim7 := { stood := { row := recordPiecesRow, standIns := [], harness := (true, "e87fbf8d0569de18fdda475ebe8eff6b1cab71c00a2475e5fe16bbd14d38446e"), looks := true }, kinds := [], alts := [], laidByText := true, laidKinds := [.sentinel, .data], laidTests := true, laidLooks := .later }
def RecordPiecesCardSaid : Prop := Claim7.holds Tryd.pinned (.plain (OpenSpec.ofChange recordPiecesSpec)) recordPiecesCard

/-- THE TIED CARD OF 'boulelaw06.RecordPuts'. -/
def recordPutsCard : Claim7 := { stood := { row := recordPutsRow, standIns := [], harness := (true, "e87fbf8d0569de18fdda475ebe8eff6b1cab71c00a2475e5fe16bbd14d38446e"), looks := true }, kinds := [], alts := [], laidByText := true, laidKinds := [.sentinel, .data], laidTests := true, laidLooks := .later }
def RecordPutsCardSaid : Prop := Claim7.holds Tryd.pinned (.plain (OpenSpec.ofChange recordPutsSpec)) recordPutsCard

/-- THE TIED CARD OF 'boulelaw06.RecordNumbers'. -/
def recordNumbersCard : Claim7 := { stood := { row := recordNumbersRow, standIns := [], harness := (true, "e87fbf8d0569de18fdda475ebe8eff6b1cab71c00a2475e5fe16bbd14d38446e"), looks := true }, kinds := [], alts := [], laidByText := true, laidKinds := [.sentinel, .data], laidTests := true, laidLooks := .later }
def RecordNumbersCardSaid : Prop := Claim7.holds Tryd.pinned (.plain (OpenSpec.ofChange recordNumbersSpec)) recordNumbersCard

/-- THE TIED CARD OF 'boulelaw06.RecordTurns'. -/
def recordTurnsCard : Claim7 := { stood := { row := recordTurnsRow, standIns := [], harness := (true, "e87fbf8d0569de18fdda475ebe8eff6b1cab71c00a2475e5fe16bbd14d38446e"), looks := true }, kinds := [], alts := [], laidByText := true, laidKinds := [.sentinel, .data], laidTests := true, laidLooks := .later }
def RecordTurnsCardSaid : Prop := Claim7.holds Tryd.pinned (.plain (OpenSpec.ofChange recordTurnsSpec)) recordTurnsCard

/-- THE TIED CARD OF 'boulelaw06.RecordTurned'. -/
def recordTurnedCard : Claim7 := { stood := { row := recordTurnedRow, standIns := [], harness := (true, "e87fbf8d0569de18fdda475ebe8eff6b1cab71c00a2475e5fe16bbd14d38446e"), looks := true }, kinds := [], alts := [], laidByText := true, laidKinds := [.sentinel, .data], laidTests := true, laidLooks := .later }
def RecordTurnedCardSaid : Prop := Claim7.holds Tryd.pinned (.plain (OpenSpec.ofChange recordTurnedSpec)) recordTurnedCard

/-- THE TIED CARD OF 'boulelaw06.RecordBack'. -/
def recordBackCard : Claim7 := { stood := { row := recordBackRow, standIns := [], harness := (true, "e87fbf8d0569de18fdda475ebe8eff6b1cab71c00a2475e5fe16bbd14d38446e"), looks := true }, kinds := [], alts := [], laidByText := true, laidKinds := [.sentinel, .data], laidTests := true, laidLooks := .later }
def RecordBackCardSaid : Prop := Claim7.holds Tryd.pinned (.plain (OpenSpec.ofChange recordBackSpec)) recordBackCard

/-- THE TIED CARD OF 'boulelaw06.RecordOneForm'. -/
def recordOneFormCard : Claim7 := { stood := { row := recordOneFormRow, standIns := [], harness := (true, "e87fbf8d0569de18fdda475ebe8eff6b1cab71c00a2475e5fe16bbd14d38446e"), looks := true }, kinds := [], alts := [], laidByText := true, laidKinds := [.sentinel, .data], laidTests := true, laidLooks := .later }
def RecordOneFormCardSaid : Prop := Claim7.holds Tryd.pinned (.plain (OpenSpec.ofChange recordOneFormSpec)) recordOneFormCard

/-- THE SECOND FORM's CARD OF 'boulelaw06.RecordChecks'. -/
def recordChecksUptoCard : Claim7 := { stood := { row := recordChecksUptoRow, standIns := [], harness := (true, "e87fbf8d0569de18fdda475ebe8eff6b1cab71c00a2475e5fe16bbd14d38446e"), looks := true }, kinds := [], alts := [], laidByText := true, laidKinds := [.sentinel, .data], laidTests := true, laidLooks := .later }
def RecordChecksUptoCardSaid : Prop := Claim7.holds Tryd.pinned (.plain (OpenSpec.upto recordChecksSpec)) recordChecksUptoCard

/-- THE SECOND FORM's CARD OF 'boulelaw06.RecordGets'. -/
def recordGetsUptoCard : Claim7 := { stood := { row := recordGetsUptoRow, standIns := [], harness := (true, "e87fbf8d0569de18fdda475ebe8eff6b1cab71c00a2475e5fe16bbd14d38446e"), looks := true }, kinds := [], alts := [], laidByText := true, laidKinds := [.sentinel, .data], laidTests := true, laidLooks := .later }
def RecordGetsUptoCardSaid : Prop := Claim7.holds Tryd.pinned (.plain (OpenSpec.upto recordGetsSpec)) recordGetsUptoCard

/-- THE SECOND FORM's CARD OF 'boulelaw06.RecordScans'. -/
def recordScansUptoCard : Claim7 := { stood := { row := recordScansUptoRow, standIns := [], harness := (true, "e87fbf8d0569de18fdda475ebe8eff6b1cab71c00a2475e5fe16bbd14d38446e"), looks := true }, kinds := [], alts := [], laidByText := true, laidKinds := [.sentinel, .data], laidTests := true, laidLooks := .later }
def RecordScansUptoCardSaid : Prop := Claim7.holds Tryd.pinned (.plain (OpenSpec.upto recordScansSpec)) recordScansUptoCard

/-- THE SECOND FORM's CARD OF 'boulelaw06.RecordLogs'. -/
def recordLogsUptoCard : Claim7 := { stood := { row := recordLogsUptoRow, standIns := [], harness := (true, "e87fbf8d0569de18fdda475ebe8eff6b1cab71c00a2475e5fe16bbd14d38446e"), looks := true }, kinds := [], alts := [], laidByText := true, laidKinds := [.sentinel, .data], laidTests := true, laidLooks := .later }
def RecordLogsUptoCardSaid : Prop := Claim7.holds Tryd.pinned (.plain (OpenSpec.upto recordLogsSpec)) recordLogsUptoCard

/-- THE SECOND FORM's CARD OF 'boulelaw06.RecordReads'. -/
def recordReadsUptoCard : Claim7 := { stood := { row := recordReadsUptoRow, standIns := [], harness := (true, "e87fbf8d0569de18fdda475ebe8eff6b1cab71c00a2475e5fe16bbd14d38446e"), looks := true }, kinds := [], alts := [], laidByText := true, laidKinds := [.sentinel, .data], laidTests := true, laidLooks := .later }
def RecordReadsUptoCardSaid : Prop := Claim7.holds Tryd.pinned (.plain (OpenSpec.upto recordReadsSpec)) recordReadsUptoCard

/-- THE SECOND FORM's CARD OF 'boulelaw06.RecordMaps'. -/
def recordMapsUptoCard : Claim7 := { stood := { row := recordMapsUptoRow, standIns := [], harness := (true, "e87fbf8d0569de18fdda475ebe8eff6b1cab71c00a2475e5fe16bbd14d38446e"), looks := true }, kinds := [], alts := [], laidByText := true, laidKinds := [.sentinel, .data], laidTests := true, laidLooks := .later }
def RecordMapsUptoCardSaid : Prop := Claim7.holds Tryd.pinned (.plain (OpenSpec.upto recordMapsSpec)) recordMapsUptoCard

/-- THE SECOND FORM's CARD OF 'boulelaw06.RecordStreams'. -/
def recordStreamsUptoCard : Claim7 := { stood := { row := recordStreamsUptoRow, standIns := [], harness := (true, "e87fbf8d0569de18fdda475ebe8eff6b1cab71c00a2475e5fe16bbd14d38446e"), looks := true }, kinds := [], alts := [], laidByText := true, laidKinds := [.sentinel, .data], laidTests := true, laidLooks := .later }
def RecordStreamsUptoCardSaid : Prop := Claim7.holds Tryd.pinned (.plain (OpenSpec.upto recordStreamsSpec)) recordStreamsUptoCard

/-- THE SECOND FORM's CARD OF 'boulelaw06.RecordBursts'. -/
def recordBurstsUptoCard : Claim7 := { stood := { row := recordBurstsUptoRow, standIns := [], harness := (true, "e87fbf8d0569de18fdda475ebe8eff6b1cab71c00a2475e5fe16bbd14d38446e"), looks := true }, kinds := [], alts := [], laidByText := true, laidKinds := [.sentinel, .data], laidTests := true, laidLooks := .later }
def RecordBurstsUptoCardSaid : Prop := Claim7.holds Tryd.pinned (.plain (OpenSpec.upto recordBurstsSpec)) recordBurstsUptoCard

/-- THE SECOND FORM's CARD OF 'boulelaw06.RecordFinds'. -/
def recordFindsUptoCard : Claim7 := { stood := { row := recordFindsUptoRow, standIns := [], harness := (true, "e87fbf8d0569de18fdda475ebe8eff6b1cab71c00a2475e5fe16bbd14d38446e"), looks := true }, kinds := [], alts := [], laidByText := true, laidKinds := [.sentinel, .data], laidTests := true, laidLooks := .later }
def RecordFindsUptoCardSaid : Prop := Claim7.holds Tryd.pinned (.plain (OpenSpec.upto recordFindsSpec)) recordFindsUptoCard

/-- THE SECOND FORM's CARD OF 'boulelaw06.RecordPieces'. -/
def recordPiecesUptoCard : Claim7 := { stood := { row := recordPiecesUptoRow, standIns := [], harness := (true, "e87fbf8d0569de18fdda475ebe8eff6b1cab71c00a2475e5fe16bbd14d38446e"), looks := true }, kinds := [], alts := [], laidByText := true, laidKinds := [.sentinel, .data], laidTests := true, laidLooks := .later }
def RecordPiecesUptoCardSaid : Prop := Claim7.holds Tryd.pinned (.plain (OpenSpec.upto recordPiecesSpec)) recordPiecesUptoCard

/-- THE SECOND FORM's CARD OF 'boulelaw06.RecordPuts'. -/
def recordPutsUptoCard : Claim7 := { stood := { row := recordPutsUptoRow, standIns := [], harness := (true, "e87fbf8d0569de18fdda475ebe8eff6b1cab71c00a2475e5fe16bbd14d38446e"), looks := true }, kinds := [], alts := [], laidByText := true, laidKinds := [.sentinel, .data], laidTests := true, laidLooks := .later }
def RecordPutsUptoCardSaid : Prop := Claim7.holds Tryd.pinned (.plain (OpenSpec.upto recordPutsSpec)) recordPutsUptoCard

/-- THE SECOND FORM's CARD OF 'boulelaw06.RecordNumbers'. -/
def recordNumbersUptoCard : Claim7 := { stood := { row := recordNumbersUptoRow, standIns := [], harness := (true, "e87fbf8d0569de18fdda475ebe8eff6b1cab71c00a2475e5fe16bbd14d38446e"), looks := true }, kinds := [], alts := [], laidByText := true, laidKinds := [.sentinel, .data], laidTests := true, laidLooks := .later }
def RecordNumbersUptoCardSaid : Prop := Claim7.holds Tryd.pinned (.plain (OpenSpec.upto recordNumbersSpec)) recordNumbersUptoCard

/-- THE SECOND FORM's CARD OF 'boulelaw06.RecordTurns'. -/
def recordTurnsUptoCard : Claim7 := { stood := { row := recordTurnsUptoRow, standIns := [], harness := (true, "e87fbf8d0569de18fdda475ebe8eff6b1cab71c00a2475e5fe16bbd14d38446e"), looks := true }, kinds := [], alts := [], laidByText := true, laidKinds := [.sentinel, .data], laidTests := true, laidLooks := .later }
def RecordTurnsUptoCardSaid : Prop := Claim7.holds Tryd.pinned (.plain (OpenSpec.upto recordTurnsSpec)) recordTurnsUptoCard

/-- THE SECOND FORM's CARD OF 'boulelaw06.RecordTurned'. -/
def recordTurnedUptoCard : Claim7 := { stood := { row := recordTurnedUptoRow, standIns := [], harness := (true, "e87fbf8d0569de18fdda475ebe8eff6b1cab71c00a2475e5fe16bbd14d38446e"), looks := true }, kinds := [], alts := [], laidByText := true, laidKinds := [.sentinel, .data], laidTests := true, laidLooks := .later }
def RecordTurnedUptoCardSaid : Prop := Claim7.holds Tryd.pinned (.plain (OpenSpec.upto recordTurnedSpec)) recordTurnedUptoCard

/-- THE SECOND FORM's CARD OF 'boulelaw06.RecordBack'. -/
def recordBackUptoCard : Claim7 := { stood := { row := recordBackUptoRow, standIns := [], harness := (true, "e87fbf8d0569de18fdda475ebe8eff6b1cab71c00a2475e5fe16bbd14d38446e"), looks := true }, kinds := [], alts := [], laidByText := true, laidKinds := [.sentinel, .data], laidTests := true, laidLooks := .later }
def RecordBackUptoCardSaid : Prop := Claim7.holds Tryd.pinned (.plain (OpenSpec.upto recordBackSpec)) recordBackUptoCard

/-- THE SECOND FORM's CARD OF 'boulelaw06.RecordOneForm'. -/
def recordOneFormUptoCard : Claim7 := { stood := { row := recordOneFormUptoRow, standIns := [], harness := (true, "e87fbf8d0569de18fdda475ebe8eff6b1cab71c00a2475e5fe16bbd14d38446e"), looks := true }, kinds := [], alts := [], laidByText := true, laidKinds := [.sentinel, .data], laidTests := true, laidLooks := .later }
def RecordOneFormUptoCardSaid : Prop := Claim7.holds Tryd.pinned (.plain (OpenSpec.upto recordOneFormSpec)) recordOneFormUptoCard
end Rows
end Go.Proofs.YtgjokhodccacoaaDoor
