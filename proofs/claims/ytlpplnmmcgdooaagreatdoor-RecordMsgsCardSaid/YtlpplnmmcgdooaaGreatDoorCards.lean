/-
  DERIVED. GIVEN WITH THE SEED: THE CARDS: each row of YtlpplnmmcgdooaaGreatDoorRows.lean that lists a variable, with what it lists TIED to the program's text (the seventh form; the later family's looks); each row that meets fmt, with fmt's text TOLD by the authors' own Lean function (tested against real Go, not proved from fmt's source: count such statements apart). THE CARD IS WHAT COUNTS. Prove the row's statement (the work); the ties are given (YtlpplnmmcgdooaaGreatDoorTie.lean); close each card by the builder's one call (the guide's Derived/Test/ToyasCard.lean, 'card_holds'). Laid BY PROGRAM, IN A SANDBOX (cutbox-door.mjs). By AI agents, Wed Nov 11 2026. No macro, syntax, notation, axiom, sorry.
-/
import Derived.Test.YtlpplnmmcgdooaaGreatDoorRows
import GoSem.ClaimSeven
namespace Go.Proofs.YtlpplnmmcgdooaaGreatDoor
namespace Rows

/-- THE TIED CARD OF 'rubatolaw09.MsgPuts'. -/
def msgPutsCard : Claim7 := { stood := { row := msgPutsRow, standIns := [], harness := (true, "5b2be4769c9699f3606276ad19345288dd8fdea695a299dd86f6f3be74b8031a"), looks := true }, kinds := [], alts := [], laidByText := true, laidKinds := [.handle], laidTests := true, laidLooks := .later }
def MsgPutsCardSaid : Prop := Claim7.holds Tryz.pinned (.plain (OpenSpec.ofChange msgPutsSpec)) msgPutsCard

/-- THE TIED CARD OF 'rubatolaw09.MsgTakes'. -/
def msgTakesCard : Claim7 := { stood := { row := msgTakesRow, standIns := [], harness := (true, "5b2be4769c9699f3606276ad19345288dd8fdea695a299dd86f6f3be74b8031a"), looks := true }, kinds := [], alts := [], laidByText := true, laidKinds := [.handle], laidTests := true, laidLooks := .later }
def MsgTakesCardSaid : Prop := Claim7.holds Tryz.pinned (.plain (OpenSpec.ofChange msgTakesSpec)) msgTakesCard

/-- THE TIED CARD OF 'rubatolaw11.RecordPuts'. -/
def recordPutsCard : Claim7 := { stood := { row := recordPutsRow, standIns := [], harness := (true, "5b2be4769c9699f3606276ad19345288dd8fdea695a299dd86f6f3be74b8031a"), looks := true }, kinds := [], alts := [], laidByText := true, laidKinds := [.handle], laidTests := true, laidLooks := .later }
def RecordPutsCardSaid : Prop := Claim7.holds Tryz.pinned (.plain (OpenSpec.ofChange recordPutsSpec)) recordPutsCard

/-- THE TIED CARD OF 'rubatolaw11.RecordMsgs'. -/
def recordMsgsCard : Claim7 := { stood := { row := recordMsgsRow, standIns := [], harness := (true, "5b2be4769c9699f3606276ad19345288dd8fdea695a299dd86f6f3be74b8031a"), looks := true }, kinds := [], alts := [], laidByText := true, laidKinds := [.handle], laidTests := true, laidLooks := .later }
def RecordMsgsCardSaid : Prop := Claim7.holds Tryz.pinned (.plain (OpenSpec.ofChange recordMsgsSpec)) recordMsgsCard

/-- THE TIED CARD OF 'rubatolaw11.RecordTakes'. -/
def recordTakesCard : Claim7 := { stood := { row := recordTakesRow, standIns := [], harness := (true, "5b2be4769c9699f3606276ad19345288dd8fdea695a299dd86f6f3be74b8031a"), looks := true }, kinds := [], alts := [], laidByText := true, laidKinds := [.handle], laidTests := true, laidLooks := .later }
def RecordTakesCardSaid : Prop := Claim7.holds Tryz.pinned (.plain (OpenSpec.ofChange recordTakesSpec)) recordTakesCard

/-- THE SECOND FORM's CARD OF 'rubatolaw09.MsgPuts'. -/
def msgPutsUptoCard : Claim7 := { stood := { row := msgPutsUptoRow, standIns := [], harness := (true, "5b2be4769c9699f3606276ad19345288dd8fdea695a299dd86f6f3be74b8031a"), looks := true }, kinds := [], alts := [], laidByText := true, laidKinds := [.handle], laidTests := true, laidLooks := .later }
def MsgPutsUptoCardSaid : Prop := Claim7.holds Tryz.pinned (.plain (OpenSpec.upto msgPutsSpec)) msgPutsUptoCard

/-- THE SECOND FORM's CARD OF 'rubatolaw09.MsgTakes'. -/
def msgTakesUptoCard : Claim7 := { stood := { row := msgTakesUptoRow, standIns := [], harness := (true, "5b2be4769c9699f3606276ad19345288dd8fdea695a299dd86f6f3be74b8031a"), looks := true }, kinds := [], alts := [], laidByText := true, laidKinds := [.handle], laidTests := true, laidLooks := .later }
def MsgTakesUptoCardSaid : Prop := Claim7.holds Tryz.pinned (.plain (OpenSpec.upto msgTakesSpec)) msgTakesUptoCard

/-- THE SECOND FORM's CARD OF 'rubatolaw11.RecordPuts'. -/
def recordPutsUptoCard : Claim7 := { stood := { row := recordPutsUptoRow, standIns := [], harness := (true, "5b2be4769c9699f3606276ad19345288dd8fdea695a299dd86f6f3be74b8031a"), looks := true }, kinds := [], alts := [], laidByText := true, laidKinds := [.handle], laidTests := true, laidLooks := .later }
def RecordPutsUptoCardSaid : Prop := Claim7.holds Tryz.pinned (.plain (OpenSpec.upto recordPutsSpec)) recordPutsUptoCard

/-- THE SECOND FORM's CARD OF 'rubatolaw11.RecordMsgs'. -/
def recordMsgsUptoCard : Claim7 := { stood := { row := recordMsgsUptoRow, standIns := [], harness := (true, "5b2be4769c9699f3606276ad19345288dd8fdea695a299dd86f6f3be74b8031a"), looks := true }, kinds := [], alts := [], laidByText := true, laidKinds := [.handle], laidTests := true, laidLooks := .later }
def RecordMsgsUptoCardSaid : Prop := Claim7.holds Tryz.pinned (.plain (OpenSpec.upto recordMsgsSpec)) recordMsgsUptoCard

/-- THE SECOND FORM's CARD OF 'rubatolaw11.RecordTakes'. -/
def recordTakesUptoCard : Claim7 := { stood := { row := recordTakesUptoRow, standIns := [], harness := (true, "5b2be4769c9699f3606276ad19345288dd8fdea695a299dd86f6f3be74b8031a"), looks := true }, kinds := [], alts := [], laidByText := true, laidKinds := [.handle], laidTests := true, laidLooks := .later }
def RecordTakesUptoCardSaid : Prop := Claim7.holds Tryz.pinned (.plain (OpenSpec.upto recordTakesSpec)) recordTakesUptoCard
end Rows
end Go.Proofs.YtlpplnmmcgdooaaGreatDoor
