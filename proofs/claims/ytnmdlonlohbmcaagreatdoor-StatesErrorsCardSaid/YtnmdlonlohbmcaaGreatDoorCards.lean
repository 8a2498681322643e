/-
  DERIVED. GIVEN WITH THE SEED: THE CARDS: each row of YtnmdlonlohbmcaaGreatDoorRows.lean that lists a variable, with what it lists TIED to the program's text (the seventh form; the later family's looks); each row that meets fmt, with fmt's text TOLD by the authors' own Lean function (tested against real Go, not proved from fmt's source: count such statements apart). THE CARD IS WHAT COUNTS. Prove the row's statement (the work); the ties are given (YtnmdlonlohbmcaaGreatDoorTie.lean); close each card by the builder's one call (the guide's Derived/Test/ToyasCard.lean, 'card_holds'). Laid BY PROGRAM, IN A SANDBOX (cutbox-door.mjs). By AI agents, Wed Nov 11 2026. No macro, syntax, notation, axiom, sorry.
-/
import Derived.Test.YtnmdlonlohbmcaaGreatDoorRows
import GoSem.ClaimSeven
namespace Go.Proofs.YtnmdlonlohbmcaaGreatDoor
namespace Rows

/-- THE TIED CARD OF 'exegetelaw12.StatesErrors'. -/
def statesErrorsCard : Claim7 := { stood := { row := statesErrorsRow, standIns := [], harness := (true, "902b228ea0bd8ea1f4ea8937ff410210bb84281a2ac8c2382f85504b46619ead"), looks := false }, kinds := [], alts := [], laidByText := true, laidKinds := [.data, .data, .data, .data, .pinned], laidTests := true, laidLooks := .later }
def StatesErrorsCardSaid : Prop := Claim7.holds Tryz.pinned (.plain (OpenSpec.ofChange statesErrorsSpec)) statesErrorsCard

/-- THE TIED CARD OF 'exegetelaw12.StatesBudget'. -/
def statesBudgetCard : Claim7 := { stood := { row := statesBudgetRow, standIns := [], harness := (true, "902b228ea0bd8ea1f4ea8937ff410210bb84281a2ac8c2382f85504b46619ead"), looks := false }, kinds := [], alts := [], laidByText := true, laidKinds := [.data, .data, .data, .data, .pinned], laidTests := true, laidLooks := .later }
def StatesBudgetCardSaid : Prop := Claim7.holds Tryz.pinned (.plain (OpenSpec.ofChange statesBudgetSpec)) statesBudgetCard

/-- THE SECOND FORM's CARD OF 'exegetelaw12.StatesErrors'. -/
def statesErrorsUptoCard : Claim7 := { stood := { row := statesErrorsUptoRow, standIns := [], harness := (true, "902b228ea0bd8ea1f4ea8937ff410210bb84281a2ac8c2382f85504b46619ead"), looks := false }, kinds := [], alts := [], laidByText := true, laidKinds := [.data, .data, .data, .data, .pinned], laidTests := true, laidLooks := .later }
def StatesErrorsUptoCardSaid : Prop := Claim7.holds Tryz.pinned (.plain (OpenSpec.upto statesErrorsSpec)) statesErrorsUptoCard

/-- THE SECOND FORM's CARD OF 'exegetelaw12.StatesBudget'. -/
def statesBudgetUptoCard : Claim7 := { stood := { row := statesBudgetUptoRow, standIns := [], harness := (true, "902b228ea0bd8ea1f4ea8937ff410210bb84281a2ac8c2382f85504b46619ead"), looks := false }, kinds := [], alts := [], laidByText := true, laidKinds := [.data, .data, .data, .data, .pinned], laidTests := true, laidLooks := .later }
def StatesBudgetUptoCardSaid : Prop := Claim7.holds Tryz.pinned (.plain (OpenSpec.upto statesBudgetSpec)) statesBudgetUptoCard
end Rows
end Go.Proofs.YtnmdlonlohbmcaaGreatDoor
