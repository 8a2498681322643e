/-
  DERIVED. GIVEN WITH THE SEED: THE CARDS: each row of YtofnienidjdldaaGreatDoorRows.lean that lists a variable, with what it lists TIED to the program's text (the seventh form; the later family's looks); each row that meets fmt, with fmt's text TOLD by the authors' own Lean function (tested against real Go, not proved from fmt's source: count such statements apart). THE CARD IS WHAT COUNTS. Prove the row's statement (the work); the ties are given (YtofnienidjdldaaGreatDoorTie.lean); close each card by the builder's one call (the guide's Derived/Test/ToyasCard.lean, 'card_holds'). Laid BY PROGRAM, IN A SANDBOX (cutbox-door.mjs). By AI agents, Wed Nov 11 2026. No macro, syntax, notation, axiom, sorry.
-/
import Derived.Test.YtofnienidjdldaaGreatDoorRows
import GoSem.ClaimSeven
namespace Go.Proofs.YtofnienidjdldaaGreatDoor
namespace Rows

/-- THE TIED CARD OF 'exegetelaw24.MakerErrors'. -/
def makerErrorsCard : Claim7 := { stood := { row := makerErrorsRow, standIns := [], harness := (true, "7e91620096b3cc10e723b6ac8eec13c5bb33d90458e05c670f9fa8093e791736"), looks := true }, kinds := [], alts := [], laidByText := true, laidKinds := [.data, .data, .data, .data, .pinned], laidTests := true, laidLooks := .later }
def MakerErrorsCardSaid : Prop := Claim7.holds Tryz.pinned (.plain (OpenSpec.ofChange makerErrorsSpec)) makerErrorsCard

/-- THE TIED CARD OF 'exegetelaw24.MakerForms'. -/
def makerFormsCard : Claim7 := { stood := { row := makerFormsRow, standIns := [], harness := (true, "7e91620096b3cc10e723b6ac8eec13c5bb33d90458e05c670f9fa8093e791736"), looks := true }, kinds := [], alts := [], laidByText := true, laidKinds := [.data, .data, .data, .data, .pinned], laidTests := true, laidLooks := .later }
def MakerFormsCardSaid : Prop := Claim7.holds Tryz.pinned (.plain (OpenSpec.ofChange makerFormsSpec)) makerFormsCard

/-- THE TIED CARD OF 'exegetelaw19.ExampleSteps'. -/
def exampleStepsCard : Claim7 := { stood := { row := exampleStepsRow, standIns := [], harness := (true, "7e91620096b3cc10e723b6ac8eec13c5bb33d90458e05c670f9fa8093e791736"), looks := true }, kinds := [], alts := [], laidByText := true, laidKinds := [.data, .data, .data, .data, .pinned], laidTests := true, laidLooks := .later }
def ExampleStepsCardSaid : Prop := Claim7.holds Tryz.pinned (.plain (OpenSpec.ofChange exampleStepsSpec)) exampleStepsCard

/-- THE SECOND FORM's CARD OF 'exegetelaw24.MakerErrors'. -/
def makerErrorsUptoCard : Claim7 := { stood := { row := makerErrorsUptoRow, standIns := [], harness := (true, "7e91620096b3cc10e723b6ac8eec13c5bb33d90458e05c670f9fa8093e791736"), looks := true }, kinds := [], alts := [], laidByText := true, laidKinds := [.data, .data, .data, .data, .pinned], laidTests := true, laidLooks := .later }
def MakerErrorsUptoCardSaid : Prop := Claim7.holds Tryz.pinned (.plain (OpenSpec.upto makerErrorsSpec)) makerErrorsUptoCard

/-- THE SECOND FORM's CARD OF 'exegetelaw24.MakerForms'. -/
def makerFormsUptoCard : Claim7 := { stood := { row := makerFormsUptoRow, standIns := [], harness := (true, "7e91620096b3cc10e723b6ac8eec13c5bb33d90458e05c670f9fa8093e791736"), looks := true }, kinds := [], alts := [], laidByText := true, laidKinds := [.data, .data, .data, .data, .pinned], laidTests := true, laidLooks := .later }
def MakerFormsUptoCardSaid : Prop := Claim7.holds Tryz.pinned (.plain (OpenSpec.upto makerFormsSpec)) makerFormsUptoCard

/-- THE SECOND FORM's CARD OF 'exegetelaw19.ExampleSteps'. -/
def exampleStepsUptoCard : Claim7 := { stood := { row := exampleStepsUptoRow, standIns := [], harness := (true, "7e91620096b3cc10e723b6ac8eec13c5bb33d90458e05c670f9fa8093e791736"), looks := true }, kinds := [], alts := [], laidByText := true, laidKinds := [.data, .data, .data, .data, .pinned], laidTests := true, laidLooks := .later }
def ExampleStepsUptoCardSaid : Prop := Claim7.holds Tryz.pinned (.plain (OpenSpec.upto exampleStepsSpec)) exampleStepsUptoCard
end Rows
end Go.Proofs.YtofnienidjdldaaGreatDoor
