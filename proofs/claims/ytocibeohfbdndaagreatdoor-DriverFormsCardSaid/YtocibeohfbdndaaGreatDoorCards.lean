/-
  DERIVED. GIVEN WITH THE SEED: THE CARDS: each row of YtocibeohfbdndaaGreatDoorRows.lean that lists a variable, with what it lists TIED to the program's text (the seventh form; the later family's looks); each row that meets fmt, with fmt's text TOLD by the authors' own Lean function (tested against real Go, not proved from fmt's source: count such statements apart). THE CARD IS WHAT COUNTS. Prove the row's statement (the work); the ties are given (YtocibeohfbdndaaGreatDoorTie.lean); close each card by the builder's one call (the guide's Derived/Test/ToyasCard.lean, 'card_holds'). Laid BY PROGRAM, IN A SANDBOX (cutbox-door.mjs). By AI agents, Wed Nov 11 2026. No macro, syntax, notation, axiom, sorry.
-/
import Derived.Test.YtocibeohfbdndaaGreatDoorRows
import GoSem.ClaimSeven
namespace Go.Proofs.YtocibeohfbdndaaGreatDoor
namespace Rows

/-- THE TIED CARD OF 'exegetelaw12.StatesMemory'. -/
def statesMemoryCard : Claim7 := { stood := { row := statesMemoryRow, standIns := [], harness := (true, "750251462bffd9c24a6ed2cd6e881292cc1fd3507556a3893ab952016f8bb3f5"), looks := true }, kinds := [], alts := [], laidByText := true, laidKinds := [.data, .data, .data, .data, .pinned], laidTests := true, laidLooks := .later }
def StatesMemoryCardSaid : Prop := Claim7.holds Tryz.pinned (.plain (OpenSpec.ofChange statesMemorySpec)) statesMemoryCard

/-- THE TIED CARD OF 'exegetelaw15.DriverForms'. -/
def driverFormsCard : Claim7 := { stood := { row := driverFormsRow, standIns := [], harness := (true, "750251462bffd9c24a6ed2cd6e881292cc1fd3507556a3893ab952016f8bb3f5"), looks := true }, kinds := [], alts := [], laidByText := true, laidKinds := [.data, .data, .data, .data, .pinned], laidTests := true, laidLooks := .later }
def DriverFormsCardSaid : Prop := Claim7.holds Tryz.pinned (.plain (OpenSpec.ofChange driverFormsSpec)) driverFormsCard

/-- THE TIED CARD OF 'exegetelaw14.RunLong'. -/
def runLongCard : Claim7 := { stood := { row := runLongRow, standIns := [], harness := (true, "750251462bffd9c24a6ed2cd6e881292cc1fd3507556a3893ab952016f8bb3f5"), looks := true }, kinds := [], alts := [], laidByText := true, laidKinds := [.data, .data, .data, .data, .pinned], laidTests := true, laidLooks := .later }
def RunLongCardSaid : Prop := Claim7.holds Tryz.pinned (.plain (OpenSpec.ofChange runLongSpec)) runLongCard

/-- THE TIED CARD OF 'exegetelaw17.PairEvery'. -/
def pairEveryCard : Claim7 := { stood := { row := pairEveryRow, standIns := [], harness := (true, "750251462bffd9c24a6ed2cd6e881292cc1fd3507556a3893ab952016f8bb3f5"), looks := true }, kinds := [], alts := [], laidByText := true, laidKinds := [.data, .data, .data, .data, .pinned], laidTests := true, laidLooks := .later }
def PairEveryCardSaid : Prop := Claim7.holds Tryz.pinned (.plain (OpenSpec.ofChange pairEverySpec)) pairEveryCard

/-- THE TIED CARD OF 'exegetelaw20.FactForms'. -/
def factFormsCard : Claim7 := { stood := { row := factFormsRow, standIns := [], harness := (true, "750251462bffd9c24a6ed2cd6e881292cc1fd3507556a3893ab952016f8bb3f5"), looks := true }, kinds := [], alts := [], laidByText := true, laidKinds := [.data, .data, .data, .data, .pinned], laidTests := true, laidLooks := .later }
def FactFormsCardSaid : Prop := Claim7.holds Tryz.pinned (.plain (OpenSpec.ofChange factFormsSpec)) factFormsCard

/-- THE TIED CARD OF 'exegetelaw23.CoverForms'. -/
def coverFormsCard : Claim7 := { stood := { row := coverFormsRow, standIns := [], harness := (true, "750251462bffd9c24a6ed2cd6e881292cc1fd3507556a3893ab952016f8bb3f5"), looks := true }, kinds := [], alts := [], laidByText := true, laidKinds := [.data, .data, .data, .data, .pinned], laidTests := true, laidLooks := .later }
def CoverFormsCardSaid : Prop := Claim7.holds Tryz.pinned (.plain (OpenSpec.ofChange coverFormsSpec)) coverFormsCard

/-- THE SECOND FORM's CARD OF 'exegetelaw12.StatesMemory'. -/
def statesMemoryUptoCard : Claim7 := { stood := { row := statesMemoryUptoRow, standIns := [], harness := (true, "750251462bffd9c24a6ed2cd6e881292cc1fd3507556a3893ab952016f8bb3f5"), looks := true }, kinds := [], alts := [], laidByText := true, laidKinds := [.data, .data, .data, .data, .pinned], laidTests := true, laidLooks := .later }
def StatesMemoryUptoCardSaid : Prop := Claim7.holds Tryz.pinned (.plain (OpenSpec.upto statesMemorySpec)) statesMemoryUptoCard

/-- THE SECOND FORM's CARD OF 'exegetelaw15.DriverForms'. -/
def driverFormsUptoCard : Claim7 := { stood := { row := driverFormsUptoRow, standIns := [], harness := (true, "750251462bffd9c24a6ed2cd6e881292cc1fd3507556a3893ab952016f8bb3f5"), looks := true }, kinds := [], alts := [], laidByText := true, laidKinds := [.data, .data, .data, .data, .pinned], laidTests := true, laidLooks := .later }
def DriverFormsUptoCardSaid : Prop := Claim7.holds Tryz.pinned (.plain (OpenSpec.upto driverFormsSpec)) driverFormsUptoCard

/-- THE SECOND FORM's CARD OF 'exegetelaw14.RunLong'. -/
def runLongUptoCard : Claim7 := { stood := { row := runLongUptoRow, standIns := [], harness := (true, "750251462bffd9c24a6ed2cd6e881292cc1fd3507556a3893ab952016f8bb3f5"), looks := true }, kinds := [], alts := [], laidByText := true, laidKinds := [.data, .data, .data, .data, .pinned], laidTests := true, laidLooks := .later }
def RunLongUptoCardSaid : Prop := Claim7.holds Tryz.pinned (.plain (OpenSpec.upto runLongSpec)) runLongUptoCard

/-- THE SECOND FORM's CARD OF 'exegetelaw17.PairEvery'. -/
def pairEveryUptoCard : Claim7 := { stood := { row := pairEveryUptoRow, standIns := [], harness := (true, "750251462bffd9c24a6ed2cd6e881292cc1fd3507556a3893ab952016f8bb3f5"), looks := true }, kinds := [], alts := [], laidByText := true, laidKinds := [.data, .data, .data, .data, .pinned], laidTests := true, laidLooks := .later }
def PairEveryUptoCardSaid : Prop := Claim7.holds Tryz.pinned (.plain (OpenSpec.upto pairEverySpec)) pairEveryUptoCard

/-- THE SECOND FORM's CARD OF 'exegetelaw20.FactForms'. -/
def factFormsUptoCard : Claim7 := { stood := { row := factFormsUptoRow, standIns := [], harness := (true, "750251462bffd9c24a6ed2cd6e881292cc1fd3507556a3893ab952016f8bb3f5"), looks := true }, kinds := [], alts := [], laidByText := true, laidKinds := [.data, .data, .data, .data, .pinned], laidTests := true, laidLooks := .later }
def FactFormsUptoCardSaid : Prop := Claim7.holds Tryz.pinned (.plain (OpenSpec.upto factFormsSpec)) factFormsUptoCard

/-- THE SECOND FORM's CARD OF 'exegetelaw23.CoverForms'. -/
def coverFormsUptoCard : Claim7 := { stood := { row := coverFormsUptoRow, standIns := [], harness := (true, "750251462bffd9c24a6ed2cd6e881292cc1fd3507556a3893ab952016f8bb3f5"), looks := true }, kinds := [], alts := [], laidByText := true, laidKinds := [.data, .data, .data, .data, .pinned], laidTests := true, laidLooks := .later }
def CoverFormsUptoCardSaid : Prop := Claim7.holds Tryz.pinned (.plain (OpenSpec.upto coverFormsSpec)) coverFormsUptoCard
end Rows
end Go.Proofs.YtocibeohfbdndaaGreatDoor
