/-
  DERIVED. GIVEN WITH THE SEED: THE CARDS: each row of YtcmfmnoamiibeaaGreatDoorRows.lean that lists a variable, with what it lists TIED to the program's text (the seventh form; the later family's looks); each row that meets fmt, with fmt's text TOLD by the authors' own Lean function (tested against real Go, not proved from fmt's source: count such statements apart). THE CARD IS WHAT COUNTS. Prove the row's statement (the work); the ties are given (YtcmfmnoamiibeaaGreatDoorTie.lean); close each card by the builder's one call (the guide's Derived/Test/ToyasCard.lean, 'card_holds'). Laid BY PROGRAM, IN A SANDBOX (cutbox-door.mjs). By AI agents, Wed Nov 11 2026. No macro, syntax, notation, axiom, sorry.
-/
import Derived.Test.YtcmfmnoamiibeaaGreatDoorRows
import GoSem.ClaimSeven
namespace Go.Proofs.YtcmfmnoamiibeaaGreatDoor
namespace Rows

/-- THE TIED CARD OF 'exegetelaw13.TableBytes'. -/
def tableBytesCard : Claim7 := { stood := { row := tableBytesRow, standIns := [], harness := (true, "c1def23b0f26cc96193b4ec93cf4a8ebab1eb15391234d3fdd0a9735a667ee51"), looks := true }, kinds := [], alts := [], laidByText := true, laidKinds := [.data, .data, .data, .data, .pinned], laidTests := true, laidLooks := .later }
def TableBytesCardSaid : Prop := Claim7.holds Tryz.pinned (.plain (OpenSpec.ofChange tableBytesSpec)) tableBytesCard

/-- THE TIED CARD OF 'exegetelaw18.TwinForms'. -/
def twinFormsCard : Claim7 := { stood := { row := twinFormsRow, standIns := [], harness := (true, "c1def23b0f26cc96193b4ec93cf4a8ebab1eb15391234d3fdd0a9735a667ee51"), looks := true }, kinds := [], alts := [], laidByText := true, laidKinds := [.data, .data, .data, .data, .pinned], laidTests := true, laidLooks := .later }
def TwinFormsCardSaid : Prop := Claim7.holds Tryz.pinned (.plain (OpenSpec.ofChange twinFormsSpec)) twinFormsCard

/-- THE TIED CARD OF 'exegetelaw21.ErrorsForms'. -/
def errorsFormsCard : Claim7 := { stood := { row := errorsFormsRow, standIns := [], harness := (true, "c1def23b0f26cc96193b4ec93cf4a8ebab1eb15391234d3fdd0a9735a667ee51"), looks := true }, kinds := [], alts := [], laidByText := true, laidKinds := [.data, .data, .data, .data, .pinned], laidTests := true, laidLooks := .later }
def ErrorsFormsCardSaid : Prop := Claim7.holds Tryz.pinned (.plain (OpenSpec.ofChange errorsFormsSpec)) errorsFormsCard

/-- THE TIED CARD OF 'exegetelaw12.StatesMemory'. -/
def statesMemoryCard : Claim7 := { stood := { row := statesMemoryRow, standIns := [], harness := (true, "c1def23b0f26cc96193b4ec93cf4a8ebab1eb15391234d3fdd0a9735a667ee51"), looks := true }, kinds := [], alts := [], laidByText := true, laidKinds := [.data, .data, .data, .data, .pinned], laidTests := true, laidLooks := .later }
def StatesMemoryCardSaid : Prop := Claim7.holds Tryz.pinned (.plain (OpenSpec.ofChange statesMemorySpec)) statesMemoryCard

/-- THE TIED CARD OF 'exegetelaw15.DriverForms'. -/
def driverFormsCard : Claim7 := { stood := { row := driverFormsRow, standIns := [], harness := (true, "c1def23b0f26cc96193b4ec93cf4a8ebab1eb15391234d3fdd0a9735a667ee51"), looks := true }, kinds := [], alts := [], laidByText := true, laidKinds := [.data, .data, .data, .data, .pinned], laidTests := true, laidLooks := .later }
def DriverFormsCardSaid : Prop := Claim7.holds Tryz.pinned (.plain (OpenSpec.ofChange driverFormsSpec)) driverFormsCard

/-- THE TIED CARD OF 'exegetelaw14.RunLong'. -/
def runLongCard : Claim7 := { stood := { row := runLongRow, standIns := [], harness := (true, "c1def23b0f26cc96193b4ec93cf4a8ebab1eb15391234d3fdd0a9735a667ee51"), looks := true }, kinds := [], alts := [], laidByText := true, laidKinds := [.data, .data, .data, .data, .pinned], laidTests := true, laidLooks := .later }
def RunLongCardSaid : Prop := Claim7.holds Tryz.pinned (.plain (OpenSpec.ofChange runLongSpec)) runLongCard

/-- THE TIED CARD OF 'exegetelaw18.TwinNone'. -/
def twinNoneCard : Claim7 := { stood := { row := twinNoneRow, standIns := [], harness := (true, "c1def23b0f26cc96193b4ec93cf4a8ebab1eb15391234d3fdd0a9735a667ee51"), looks := true }, kinds := [], alts := [], laidByText := true, laidKinds := [.data, .data, .data, .data, .pinned], laidTests := true, laidLooks := .later }
def TwinNoneCardSaid : Prop := Claim7.holds Tryz.pinned (.plain (OpenSpec.ofChange twinNoneSpec)) twinNoneCard

/-- THE TIED CARD OF 'exegetelaw17.PairEvery'. -/
def pairEveryCard : Claim7 := { stood := { row := pairEveryRow, standIns := [], harness := (true, "c1def23b0f26cc96193b4ec93cf4a8ebab1eb15391234d3fdd0a9735a667ee51"), looks := true }, kinds := [], alts := [], laidByText := true, laidKinds := [.data, .data, .data, .data, .pinned], laidTests := true, laidLooks := .later }
def PairEveryCardSaid : Prop := Claim7.holds Tryz.pinned (.plain (OpenSpec.ofChange pairEverySpec)) pairEveryCard

/-- THE SECOND FORM's CARD OF 'exegetelaw13.TableBytes'. -/
def tableBytesUptoCard : Claim7 := { stood := { row := tableBytesUptoRow, standIns := [], harness := (true, "c1def23b0f26cc96193b4ec93cf4a8ebab1eb15391234d3fdd0a9735a667ee51"), looks := true }, kinds := [], alts := [], laidByText := true, laidKinds := [.data, .data, .data, .data, .pinned], laidTests := true, laidLooks := .later }
def TableBytesUptoCardSaid : Prop := Claim7.holds Tryz.pinned (.plain (OpenSpec.upto tableBytesSpec)) tableBytesUptoCard

/-- THE SECOND FORM's CARD OF 'exegetelaw18.TwinForms'. -/
def twinFormsUptoCard : Claim7 := { stood := { row := twinFormsUptoRow, standIns := [], harness := (true, "c1def23b0f26cc96193b4ec93cf4a8ebab1eb15391234d3fdd0a9735a667ee51"), looks := true }, kinds := [], alts := [], laidByText := true, laidKinds := [.data, .data, .data, .data, .pinned], laidTests := true, laidLooks := .later }
def TwinFormsUptoCardSaid : Prop := Claim7.holds Tryz.pinned (.plain (OpenSpec.upto twinFormsSpec)) twinFormsUptoCard

/-- THE SECOND FORM's CARD OF 'exegetelaw21.ErrorsForms'. -/
def errorsFormsUptoCard : Claim7 := { stood := { row := errorsFormsUptoRow, standIns := [], harness := (true, "c1def23b0f26cc96193b4ec93cf4a8ebab1eb15391234d3fdd0a9735a667ee51"), looks := true }, kinds := [], alts := [], laidByText := true, laidKinds := [.data, .data, .data, .data, .pinned], laidTests := true, laidLooks := .later }
def ErrorsFormsUptoCardSaid : Prop := Claim7.holds Tryz.pinned (.plain (OpenSpec.upto errorsFormsSpec)) errorsFormsUptoCard

/-- THE SECOND FORM's CARD OF 'exegetelaw12.StatesMemory'. -/
def statesMemoryUptoCard : Claim7 := { stood := { row := statesMemoryUptoRow, standIns := [], harness := (true, "c1def23b0f26cc96193b4ec93cf4a8ebab1eb15391234d3fdd0a9735a667ee51"), looks := true }, kinds := [], alts := [], laidByText := true, laidKinds := [.data, .data, .data, .data, .pinned], laidTests := true, laidLooks := .later }
def StatesMemoryUptoCardSaid : Prop := Claim7.holds Tryz.pinned (.plain (OpenSpec.upto statesMemorySpec)) statesMemoryUptoCard

/-- THE SECOND FORM's CARD OF 'exegetelaw15.DriverForms'. -/
def driverFormsUptoCard : Claim7 := { stood := { row := driverFormsUptoRow, standIns := [], harness := (true, "c1def23b0f26cc96193b4ec93cf4a8ebab1eb15391234d3fdd0a9735a667ee51"), looks := true }, kinds := [], alts := [], laidByText := true, laidKinds := [.data, .data, .data, .data, .pinned], laidTests := true, laidLooks := .later }
def DriverFormsUptoCardSaid : Prop := Claim7.holds Tryz.pinned (.plain (OpenSpec.upto driverFormsSpec)) driverFormsUptoCard

/-- THE SECOND FORM's CARD OF 'exegetelaw14.RunLong'. -/
def runLongUptoCard : Claim7 := { stood := { row := runLongUptoRow, standIns := [], harness := (true, "c1def23b0f26cc96193b4ec93cf4a8ebab1eb15391234d3fdd0a9735a667ee51"), looks := true }, kinds := [], alts := [], laidByText := true, laidKinds := [.data, .data, .data, .data, .pinned], laidTests := true, laidLooks := .later }
def RunLongUptoCardSaid : Prop := Claim7.holds Tryz.pinned (.plain (OpenSpec.upto runLongSpec)) runLongUptoCard

/-- THE SECOND FORM's CARD OF 'exegetelaw18.TwinNone'. -/
def twinNoneUptoCard : Claim7 := { stood := { row := twinNoneUptoRow, standIns := [], harness := (true, "c1def23b0f26cc96193b4ec93cf4a8ebab1eb15391234d3fdd0a9735a667ee51"), looks := true }, kinds := [], alts := [], laidByText := true, laidKinds := [.data, .data, .data, .data, .pinned], laidTests := true, laidLooks := .later }
def TwinNoneUptoCardSaid : Prop := Claim7.holds Tryz.pinned (.plain (OpenSpec.upto twinNoneSpec)) twinNoneUptoCard

/-- THE SECOND FORM's CARD OF 'exegetelaw17.PairEvery'. -/
def pairEveryUptoCard : Claim7 := { stood := { row := pairEveryUptoRow, standIns := [], harness := (true, "c1def23b0f26cc96193b4ec93cf4a8ebab1eb15391234d3fdd0a9735a667ee51"), looks := true }, kinds := [], alts := [], laidByText := true, laidKinds := [.data, .data, .data, .data, .pinned], laidTests := true, laidLooks := .later }
def PairEveryUptoCardSaid : Prop := Claim7.holds Tryz.pinned (.plain (OpenSpec.upto pairEverySpec)) pairEveryUptoCard
end Rows
end Go.Proofs.YtcmfmnoamiibeaaGreatDoor
