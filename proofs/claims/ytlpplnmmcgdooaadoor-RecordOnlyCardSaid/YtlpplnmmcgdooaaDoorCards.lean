/-
  DERIVED. GIVEN WITH THE SEED: THE CARDS: each row of YtlpplnmmcgdooaaDoorRows.lean that lists a variable, with what it lists TIED to the program's text (the seventh form; the later family's looks); each row that meets fmt, with fmt's text TOLD by the authors' own Lean function (tested against real Go, not proved from fmt's source: count such statements apart). THE CARD IS WHAT COUNTS. Prove the row's statement (the work); the ties are given (YtlpplnmmcgdooaaDoorTie.lean); close each card by the builder's one call (the guide's Derived/Test/ToyasCard.lean, 'card_holds'). Laid BY PROGRAM, IN A SANDBOX (cutbox-door.mjs). By AI agents, Wed Nov 11 2026. No macro, syntax, notation, axiom, sorry.
-/
import Derived.Test.YtlpplnmmcgdooaaDoorRows
import GoSem.ClaimSeven
namespace Go.Proofs.YtlpplnmmcgdooaaDoor
namespace Rows

/-- THE TIED CARD OF 'rubatolaw09.MsgBack'. -/
def msgBackCard : Claim7 := { stood := { row := msgBackRow, standIns := [], harness := (true, "6ad66f5964c69bbe00e6660cb089ac6f35026da9e148d5cf34e00c6c900ad625"), looks := true }, kinds := [], alts := [], laidByText := true, laidKinds := [.handle], laidTests := true, laidLooks := .later }
def MsgBackCardSaid : Prop := Claim7.holds Tryd.pinned (.plain (OpenSpec.ofChange msgBackSpec)) msgBackCard

/-- THE TIED CARD OF 'rubatolaw09.MsgOnly'. -/
def msgOnlyCard : Claim7 := { stood := { row := msgOnlyRow, standIns := [], harness := (true, "6ad66f5964c69bbe00e6660cb089ac6f35026da9e148d5cf34e00c6c900ad625"), looks := true }, kinds := [], alts := [], laidByText := true, laidKinds := [.handle], laidTests := true, laidLooks := .later }
def MsgOnlyCardSaid : Prop := Claim7.holds Tryd.pinned (.plain (OpenSpec.ofChange msgOnlySpec)) msgOnlyCard

/-- THE TIED CARD OF 'rubatolaw11.RecordBack'. -/
def recordBackCard : Claim7 := { stood := { row := recordBackRow, standIns := [], harness := (true, "6ad66f5964c69bbe00e6660cb089ac6f35026da9e148d5cf34e00c6c900ad625"), looks := true }, kinds := [], alts := [], laidByText := true, laidKinds := [.handle], laidTests := true, laidLooks := .later }
def RecordBackCardSaid : Prop := Claim7.holds Tryd.pinned (.plain (OpenSpec.ofChange recordBackSpec)) recordBackCard

/-- THE TIED CARD OF 'rubatolaw11.RecordOnly'. -/
def recordOnlyCard : Claim7 := { stood := { row := recordOnlyRow, standIns := [], harness := (true, "6ad66f5964c69bbe00e6660cb089ac6f35026da9e148d5cf34e00c6c900ad625"), looks := true }, kinds := [], alts := [], laidByText := true, laidKinds := [.handle], laidTests := true, laidLooks := .later }
def RecordOnlyCardSaid : Prop := Claim7.holds Tryd.pinned (.plain (OpenSpec.ofChange recordOnlySpec)) recordOnlyCard

/-- THE SECOND FORM's CARD OF 'rubatolaw09.MsgBack'. -/
def msgBackUptoCard : Claim7 := { stood := { row := msgBackUptoRow, standIns := [], harness := (true, "6ad66f5964c69bbe00e6660cb089ac6f35026da9e148d5cf34e00c6c900ad625"), looks := true }, kinds := [], alts := [], laidByText := true, laidKinds := [.handle], laidTests := true, laidLooks := .later }
def MsgBackUptoCardSaid : Prop := Claim7.holds Tryd.pinned (.plain (OpenSpec.upto msgBackSpec)) msgBackUptoCard

/-- THE SECOND FORM's CARD OF 'rubatolaw09.MsgOnly'. -/
def msgOnlyUptoCard : Claim7 := { stood := { row := msgOnlyUptoRow, standIns := [], harness := (true, "6ad66f5964c69bbe00e6660cb089ac6f35026da9e148d5cf34e00c6c900ad625"), looks := true }, kinds := [], alts := [], laidByText := true, laidKinds := [.handle], laidTests := true, laidLooks := .later }
def MsgOnlyUptoCardSaid : Prop := Claim7.holds Tryd.pinned (.plain (OpenSpec.upto msgOnlySpec)) msgOnlyUptoCard

/-- THE SECOND FORM's CARD OF 'rubatolaw11.RecordBack'. -/
def recordBackUptoCard : Claim7 := { stood := { row := recordBackUptoRow, standIns := [], harness := (true, "6ad66f5964c69bbe00e6660cb089ac6f35026da9e148d5cf34e00c6c900ad625"), looks := true }, kinds := [], alts := [], laidByText := true, laidKinds := [.handle], laidTests := true, laidLooks := .later }
def RecordBackUptoCardSaid : Prop := Claim7.holds Tryd.pinned (.plain (OpenSpec.upto recordBackSpec)) recordBackUptoCard

/-- THE SECOND FORM's CARD OF 'rubatolaw11.RecordOnly'. -/
def recordOnlyUptoCard : Claim7 := { stood := { row := recordOnlyUptoRow, standIns := [], harness := (true, "6ad66f5964c69bbe00e6660cb089ac6f35026da9e148d5cf34e00c6c900ad625"), looks := true }, kinds := [], alts := [], laidByText := true, laidKinds := [.handle], laidTests := true, laidLooks := .later }
def RecordOnlyUptoCardSaid : Prop := Claim7.holds Tryd.pinned (.plain (OpenSpec.upto recordOnlySpec)) recordOnlyUptoCard
end Rows
end Go.Proofs.YtlpplnmmcgdooaaDoor
