/-
  DERIVED. GIVEN WITH THE SEED: THE CARDS: each row of YtnmojicfmcbgmaaGreatDoorRows.lean that lists a variable, with what it lists TIED to the program's text (the seventh form; the later family's looks); each row that meets fmt, with fmt's text TOLD by the authors' own Lean function (tested against real Go, not proved from fmt's source: count such statements apart). THE CARD IS WHAT COUNTS. Prove the row's statement (the work); the ties are given (YtnmojicfmcbgmaaGreatDoorTie.lean); close each card by the builder's one call (the guide's Derived/Test/ToyasCard.lean, 'card_holds'). Laid BY PROGRAM, IN A SANDBOX (cutbox-door.mjs). By AI agents, Wed Nov 11 2026. No macro, syntax, notation, axiom, sorry.
-/
import Derived.Test.YtnmojicfmcbgmaaGreatDoorRows
import GoSem.ClaimSeven
namespace Go.Proofs.YtnmojicfmcbgmaaGreatDoor
namespace Rows

/-- THE TIED CARD OF 'rubatolaw36.ImagePuts'. -/
def imagePutsCard : Claim7 := { stood := { row := imagePutsRow, standIns := [], harness := (true, "1c22b924c98fb5745bbce62c93105d619e7cede4e833e118d4de7a14a35a3055"), looks := true }, kinds := [], alts := [], laidByText := true, laidKinds := [.handle], laidTests := true, laidLooks := .later }
def ImagePutsCardSaid : Prop := Claim7.holds Tryz.pinned (.plain (OpenSpec.ofChange imagePutsSpec)) imagePutsCard

/-- THE TIED CARD OF 'rubatolaw36.ImageBack'. -/
def imageBackCard : Claim7 := { stood := { row := imageBackRow, standIns := [], harness := (true, "1c22b924c98fb5745bbce62c93105d619e7cede4e833e118d4de7a14a35a3055"), looks := true }, kinds := [], alts := [], laidByText := true, laidKinds := [.handle], laidTests := true, laidLooks := .later }
def ImageBackCardSaid : Prop := Claim7.holds Tryz.pinned (.plain (OpenSpec.ofChange imageBackSpec)) imageBackCard

/-- THE TIED CARD OF 'rubatolaw36.ImageOnly'. -/
def imageOnlyCard : Claim7 := { stood := { row := imageOnlyRow, standIns := [], harness := (true, "1c22b924c98fb5745bbce62c93105d619e7cede4e833e118d4de7a14a35a3055"), looks := true }, kinds := [], alts := [], laidByText := true, laidKinds := [.handle], laidTests := true, laidLooks := .later }
def ImageOnlyCardSaid : Prop := Claim7.holds Tryz.pinned (.plain (OpenSpec.ofChange imageOnlySpec)) imageOnlyCard

/-- THE SECOND FORM's CARD OF 'rubatolaw36.ImagePuts'. -/
def imagePutsUptoCard : Claim7 := { stood := { row := imagePutsUptoRow, standIns := [], harness := (true, "1c22b924c98fb5745bbce62c93105d619e7cede4e833e118d4de7a14a35a3055"), looks := true }, kinds := [], alts := [], laidByText := true, laidKinds := [.handle], laidTests := true, laidLooks := .later }
def ImagePutsUptoCardSaid : Prop := Claim7.holds Tryz.pinned (.plain (OpenSpec.upto imagePutsSpec)) imagePutsUptoCard

/-- THE SECOND FORM's CARD OF 'rubatolaw36.ImageBack'. -/
def imageBackUptoCard : Claim7 := { stood := { row := imageBackUptoRow, standIns := [], harness := (true, "1c22b924c98fb5745bbce62c93105d619e7cede4e833e118d4de7a14a35a3055"), looks := true }, kinds := [], alts := [], laidByText := true, laidKinds := [.handle], laidTests := true, laidLooks := .later }
def ImageBackUptoCardSaid : Prop := Claim7.holds Tryz.pinned (.plain (OpenSpec.upto imageBackSpec)) imageBackUptoCard

/-- THE SECOND FORM's CARD OF 'rubatolaw36.ImageOnly'. -/
def imageOnlyUptoCard : Claim7 := { stood := { row := imageOnlyUptoRow, standIns := [], harness := (true, "1c22b924c98fb5745bbce62c93105d619e7cede4e833e118d4de7a14a35a3055"), looks := true }, kinds := [], alts := [], laidByText := true, laidKinds := [.handle], laidTests := true, laidLooks := .later }
def ImageOnlyUptoCardSaid : Prop := Claim7.holds Tryz.pinned (.plain (OpenSpec.upto imageOnlySpec)) imageOnlyUptoCard
end Rows
end Go.Proofs.YtnmojicfmcbgmaaGreatDoor
