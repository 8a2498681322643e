/-
  DERIVED. GIVEN WITH THE SEED: THE CARDS: each row of YtjleffkdaiaknaaGreatDoorRows.lean that lists a variable, with what it lists TIED to the program's text (the seventh form; the later family's looks); each row that meets fmt, with fmt's text TOLD by the authors' own Lean function (tested against real Go, not proved from fmt's source: count such statements apart). THE CARD IS WHAT COUNTS. Prove the row's statement (the work); the ties are given (YtjleffkdaiaknaaGreatDoorTie.lean); close each card by the builder's one call (the guide's Derived/Test/ToyasCard.lean, 'card_holds'). Laid BY PROGRAM, IN A SANDBOX (cutbox-door.mjs). By AI agents, Wed Nov 11 2026. No macro, syntax, notation, axiom, sorry.
-/
import Derived.Test.YtjleffkdaiaknaaGreatDoorRows
import GoSem.ClaimSeven
namespace Go.Proofs.YtjleffkdaiaknaaGreatDoor
namespace Rows

/-- THE TIED CARD OF 'exegetelaw25.ConsoleTurns'. -/
def consoleTurnsCard : Claim7 := { stood := { row := consoleTurnsRow, standIns := [], harness := (true, "908c56f920478d7a9d685feb152f7ded868f528006a7e75ba93741bda840bd24"), looks := true }, kinds := [], alts := [], laidByText := true, laidKinds := [.data, .data, .data, .data, .sentinel, .sentinel, .pinned], laidTests := true, laidLooks := .later }
def ConsoleTurnsCardSaid : Prop := Claim7.holds Tryz.pinned (.plain (OpenSpec.ofChange consoleTurnsSpec)) consoleTurnsCard

/-- THE TIED CARD OF 'exegetelaw25.ConsoleDay'. -/
def consoleDayCard : Claim7 := { stood := { row := consoleDayRow, standIns := [], harness := (true, "908c56f920478d7a9d685feb152f7ded868f528006a7e75ba93741bda840bd24"), looks := true }, kinds := [], alts := [], laidByText := true, laidKinds := [.data, .data, .data, .data, .sentinel, .sentinel, .pinned], laidTests := true, laidLooks := .later }
def ConsoleDayCardSaid : Prop := Claim7.holds Tryz.pinned (.plain (OpenSpec.ofChange consoleDaySpec)) consoleDayCard

/-- THE SECOND FORM's CARD OF 'exegetelaw25.ConsoleTurns'. -/
def consoleTurnsUptoCard : Claim7 := { stood := { row := consoleTurnsUptoRow, standIns := [], harness := (true, "908c56f920478d7a9d685feb152f7ded868f528006a7e75ba93741bda840bd24"), looks := true }, kinds := [], alts := [], laidByText := true, laidKinds := [.data, .data, .data, .data, .sentinel, .sentinel, .pinned], laidTests := true, laidLooks := .later }
def ConsoleTurnsUptoCardSaid : Prop := Claim7.holds Tryz.pinned (.plain (OpenSpec.upto consoleTurnsSpec)) consoleTurnsUptoCard

/-- THE SECOND FORM's CARD OF 'exegetelaw25.ConsoleDay'. -/
def consoleDayUptoCard : Claim7 := { stood := { row := consoleDayUptoRow, standIns := [], harness := (true, "908c56f920478d7a9d685feb152f7ded868f528006a7e75ba93741bda840bd24"), looks := true }, kinds := [], alts := [], laidByText := true, laidKinds := [.data, .data, .data, .data, .sentinel, .sentinel, .pinned], laidTests := true, laidLooks := .later }
def ConsoleDayUptoCardSaid : Prop := Claim7.holds Tryz.pinned (.plain (OpenSpec.upto consoleDaySpec)) consoleDayUptoCard
end Rows
end Go.Proofs.YtjleffkdaiaknaaGreatDoor
