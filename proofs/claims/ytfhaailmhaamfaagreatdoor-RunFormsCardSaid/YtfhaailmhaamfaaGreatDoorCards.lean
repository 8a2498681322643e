/-
  DERIVED. GIVEN WITH THE SEED: THE CARDS: each row of YtfhaailmhaamfaaGreatDoorRows.lean that lists a variable, with what it lists TIED to the program's text (the seventh form; the later family's looks); each row that meets fmt, with fmt's text TOLD by the authors' own Lean function (tested against real Go, not proved from fmt's source: count such statements apart). THE CARD IS WHAT COUNTS. Prove the row's statement (the work); the ties are given (YtfhaailmhaamfaaGreatDoorTie.lean); close each card by the builder's one call (the guide's Derived/Test/ToyasCard.lean, 'card_holds'). Laid BY PROGRAM, IN A SANDBOX (cutbox-door.mjs). By AI agents, Wed Nov 11 2026. No macro, syntax, notation, axiom, sorry.
-/
import Derived.Test.YtfhaailmhaamfaaGreatDoorRows
import GoSem.ClaimSeven
namespace Go.Proofs.YtfhaailmhaamfaaGreatDoor
namespace Rows

/-- THE TIED CARD OF 'exegetelaw12.StatesMemory'. -/
def statesMemoryCard : Claim7 := { stood := { row := statesMemoryRow, standIns := [], harness := (true, "daa29aa2975e06d1d43ba3434a7253fe61cb493408dbc30c7b3f3cd76cc531d5"), looks := false }, kinds := [], alts := [], laidByText := true, laidKinds := [.data, .data, .data, .data, .pinned], laidTests := true, laidLooks := .later }
def StatesMemoryCardSaid : Prop := Claim7.holds Tryz.pinned (.plain (OpenSpec.ofChange statesMemorySpec)) statesMemoryCard

/-- THE TIED CARD OF 'exegetelaw12.StatesForms'. -/
def statesFormsCard : Claim7 := { stood := { row := statesFormsRow, standIns := [], harness := (true, "daa29aa2975e06d1d43ba3434a7253fe61cb493408dbc30c7b3f3cd76cc531d5"), looks := false }, kinds := [], alts := [], laidByText := true, laidKinds := [.data, .data, .data, .data, .pinned], laidTests := true, laidLooks := .later }
def StatesFormsCardSaid : Prop := Claim7.holds Tryz.pinned (.plain (OpenSpec.ofChange statesFormsSpec)) statesFormsCard

/-- THE TIED CARD OF 'exegetelaw13.TableForms'. -/
def tableFormsCard : Claim7 := { stood := { row := tableFormsRow, standIns := [], harness := (true, "daa29aa2975e06d1d43ba3434a7253fe61cb493408dbc30c7b3f3cd76cc531d5"), looks := false }, kinds := [], alts := [], laidByText := true, laidKinds := [.data, .data, .data, .data, .pinned], laidTests := true, laidLooks := .later }
def TableFormsCardSaid : Prop := Claim7.holds Tryz.pinned (.plain (OpenSpec.ofChange tableFormsSpec)) tableFormsCard

/-- THE TIED CARD OF 'exegetelaw13.TableBytes'. -/
def tableBytesCard : Claim7 := { stood := { row := tableBytesRow, standIns := [], harness := (true, "daa29aa2975e06d1d43ba3434a7253fe61cb493408dbc30c7b3f3cd76cc531d5"), looks := false }, kinds := [], alts := [], laidByText := true, laidKinds := [.data, .data, .data, .data, .pinned], laidTests := true, laidLooks := .later }
def TableBytesCardSaid : Prop := Claim7.holds Tryz.pinned (.plain (OpenSpec.ofChange tableBytesSpec)) tableBytesCard

/-- THE TIED CARD OF 'exegetelaw16.PathForms'. -/
def pathFormsCard : Claim7 := { stood := { row := pathFormsRow, standIns := [], harness := (true, "daa29aa2975e06d1d43ba3434a7253fe61cb493408dbc30c7b3f3cd76cc531d5"), looks := false }, kinds := [], alts := [], laidByText := true, laidKinds := [.data, .data, .data, .data, .pinned], laidTests := true, laidLooks := .later }
def PathFormsCardSaid : Prop := Claim7.holds Tryz.pinned (.plain (OpenSpec.ofChange pathFormsSpec)) pathFormsCard

/-- THE TIED CARD OF 'exegetelaw14.RunForms'. -/
def runFormsCard : Claim7 := { stood := { row := runFormsRow, standIns := [], harness := (true, "daa29aa2975e06d1d43ba3434a7253fe61cb493408dbc30c7b3f3cd76cc531d5"), looks := false }, kinds := [], alts := [], laidByText := true, laidKinds := [.data, .data, .data, .data, .pinned], laidTests := true, laidLooks := .later }
def RunFormsCardSaid : Prop := Claim7.holds Tryz.pinned (.plain (OpenSpec.ofChange runFormsSpec)) runFormsCard

/-- THE TIED CARD OF 'exegetelaw18.TwinForms'. -/
def twinFormsCard : Claim7 := { stood := { row := twinFormsRow, standIns := [], harness := (true, "daa29aa2975e06d1d43ba3434a7253fe61cb493408dbc30c7b3f3cd76cc531d5"), looks := false }, kinds := [], alts := [], laidByText := true, laidKinds := [.data, .data, .data, .data, .pinned], laidTests := true, laidLooks := .later }
def TwinFormsCardSaid : Prop := Claim7.holds Tryz.pinned (.plain (OpenSpec.ofChange twinFormsSpec)) twinFormsCard

/-- THE TIED CARD OF 'exegetelaw17.PairForms'. -/
def pairFormsCard : Claim7 := { stood := { row := pairFormsRow, standIns := [], harness := (true, "daa29aa2975e06d1d43ba3434a7253fe61cb493408dbc30c7b3f3cd76cc531d5"), looks := false }, kinds := [], alts := [], laidByText := true, laidKinds := [.data, .data, .data, .data, .pinned], laidTests := true, laidLooks := .later }
def PairFormsCardSaid : Prop := Claim7.holds Tryz.pinned (.plain (OpenSpec.ofChange pairFormsSpec)) pairFormsCard

/-- THE TIED CARD OF 'exegetelaw17.PairEnds'. -/
def pairEndsCard : Claim7 := { stood := { row := pairEndsRow, standIns := [], harness := (true, "daa29aa2975e06d1d43ba3434a7253fe61cb493408dbc30c7b3f3cd76cc531d5"), looks := false }, kinds := [], alts := [], laidByText := true, laidKinds := [.data, .data, .data, .data, .pinned], laidTests := true, laidLooks := .later }
def PairEndsCardSaid : Prop := Claim7.holds Tryz.pinned (.plain (OpenSpec.ofChange pairEndsSpec)) pairEndsCard

/-- THE TIED CARD OF 'exegetelaw21.ErrorsForms'. -/
def errorsFormsCard : Claim7 := { stood := { row := errorsFormsRow, standIns := [], harness := (true, "daa29aa2975e06d1d43ba3434a7253fe61cb493408dbc30c7b3f3cd76cc531d5"), looks := false }, kinds := [], alts := [], laidByText := true, laidKinds := [.data, .data, .data, .data, .pinned], laidTests := true, laidLooks := .later }
def ErrorsFormsCardSaid : Prop := Claim7.holds Tryz.pinned (.plain (OpenSpec.ofChange errorsFormsSpec)) errorsFormsCard

/-- THE SECOND FORM's CARD OF 'exegetelaw12.StatesMemory'. -/
def statesMemoryUptoCard : Claim7 := { stood := { row := statesMemoryUptoRow, standIns := [], harness := (true, "daa29aa2975e06d1d43ba3434a7253fe61cb493408dbc30c7b3f3cd76cc531d5"), looks := false }, kinds := [], alts := [], laidByText := true, laidKinds := [.data, .data, .data, .data, .pinned], laidTests := true, laidLooks := .later }
def StatesMemoryUptoCardSaid : Prop := Claim7.holds Tryz.pinned (.plain (OpenSpec.upto statesMemorySpec)) statesMemoryUptoCard

/-- THE SECOND FORM's CARD OF 'exegetelaw12.StatesForms'. -/
def statesFormsUptoCard : Claim7 := { stood := { row := statesFormsUptoRow, standIns := [], harness := (true, "daa29aa2975e06d1d43ba3434a7253fe61cb493408dbc30c7b3f3cd76cc531d5"), looks := false }, kinds := [], alts := [], laidByText := true, laidKinds := [.data, .data, .data, .data, .pinned], laidTests := true, laidLooks := .later }
def StatesFormsUptoCardSaid : Prop := Claim7.holds Tryz.pinned (.plain (OpenSpec.upto statesFormsSpec)) statesFormsUptoCard

/-- THE SECOND FORM's CARD OF 'exegetelaw13.TableForms'. -/
def tableFormsUptoCard : Claim7 := { stood := { row := tableFormsUptoRow, standIns := [], harness := (true, "daa29aa2975e06d1d43ba3434a7253fe61cb493408dbc30c7b3f3cd76cc531d5"), looks := false }, kinds := [], alts := [], laidByText := true, laidKinds := [.data, .data, .data, .data, .pinned], laidTests := true, laidLooks := .later }
def TableFormsUptoCardSaid : Prop := Claim7.holds Tryz.pinned (.plain (OpenSpec.upto tableFormsSpec)) tableFormsUptoCard

/-- THE SECOND FORM's CARD OF 'exegetelaw13.TableBytes'. -/
def tableBytesUptoCard : Claim7 := { stood := { row := tableBytesUptoRow, standIns := [], harness := (true, "daa29aa2975e06d1d43ba3434a7253fe61cb493408dbc30c7b3f3cd76cc531d5"), looks := false }, kinds := [], alts := [], laidByText := true, laidKinds := [.data, .data, .data, .data, .pinned], laidTests := true, laidLooks := .later }
def TableBytesUptoCardSaid : Prop := Claim7.holds Tryz.pinned (.plain (OpenSpec.upto tableBytesSpec)) tableBytesUptoCard

/-- THE SECOND FORM's CARD OF 'exegetelaw16.PathForms'. -/
def pathFormsUptoCard : Claim7 := { stood := { row := pathFormsUptoRow, standIns := [], harness := (true, "daa29aa2975e06d1d43ba3434a7253fe61cb493408dbc30c7b3f3cd76cc531d5"), looks := false }, kinds := [], alts := [], laidByText := true, laidKinds := [.data, .data, .data, .data, .pinned], laidTests := true, laidLooks := .later }
def PathFormsUptoCardSaid : Prop := Claim7.holds Tryz.pinned (.plain (OpenSpec.upto pathFormsSpec)) pathFormsUptoCard

/-- THE SECOND FORM's CARD OF 'exegetelaw14.RunForms'. -/
def runFormsUptoCard : Claim7 := { stood := { row := runFormsUptoRow, standIns := [], harness := (true, "daa29aa2975e06d1d43ba3434a7253fe61cb493408dbc30c7b3f3cd76cc531d5"), looks := false }, kinds := [], alts := [], laidByText := true, laidKinds := [.data, .data, .data, .data, .pinned], laidTests := true, laidLooks := .later }
def RunFormsUptoCardSaid : Prop := Claim7.holds Tryz.pinned (.plain (OpenSpec.upto runFormsSpec)) runFormsUptoCard

/-- THE SECOND FORM's CARD OF 'exegetelaw18.TwinForms'. -/
def twinFormsUptoCard : Claim7 := { stood := { row := twinFormsUptoRow, standIns := [], harness := (true, "daa29aa2975e06d1d43ba3434a7253fe61cb493408dbc30c7b3f3cd76cc531d5"), looks := false }, kinds := [], alts := [], laidByText := true, laidKinds := [.data, .data, .data, .data, .pinned], laidTests := true, laidLooks := .later }
def TwinFormsUptoCardSaid : Prop := Claim7.holds Tryz.pinned (.plain (OpenSpec.upto twinFormsSpec)) twinFormsUptoCard

/-- THE SECOND FORM's CARD OF 'exegetelaw17.PairForms'. -/
def pairFormsUptoCard : Claim7 := { stood := { row := pairFormsUptoRow, standIns := [], harness := (true, "daa29aa2975e06d1d43ba3434a7253fe61cb493408dbc30c7b3f3cd76cc531d5"), looks := false }, kinds := [], alts := [], laidByText := true, laidKinds := [.data, .data, .data, .data, .pinned], laidTests := true, laidLooks := .later }
def PairFormsUptoCardSaid : Prop := Claim7.holds Tryz.pinned (.plain (OpenSpec.upto pairFormsSpec)) pairFormsUptoCard

/-- THE SECOND FORM's CARD OF 'exegetelaw17.PairEnds'. -/
def pairEndsUptoCard : Claim7 := { stood := { row := pairEndsUptoRow, standIns := [], harness := (true, "daa29aa2975e06d1d43ba3434a7253fe61cb493408dbc30c7b3f3cd76cc531d5"), looks := false }, kinds := [], alts := [], laidByText := true, laidKinds := [.data, .data, .data, .data, .pinned], laidTests := true, laidLooks := .later }
def PairEndsUptoCardSaid : Prop := Claim7.holds Tryz.pinned (.plain (OpenSpec.upto pairEndsSpec)) pairEndsUptoCard

/-- THE SECOND FORM's CARD OF 'exegetelaw21.ErrorsForms'. -/
def errorsFormsUptoCard : Claim7 := { stood := { row := errorsFormsUptoRow, standIns := [], harness := (true, "daa29aa2975e06d1d43ba3434a7253fe61cb493408dbc30c7b3f3cd76cc531d5"), looks := false }, kinds := [], alts := [], laidByText := true, laidKinds := [.data, .data, .data, .data, .pinned], laidTests := true, laidLooks := .later }
def ErrorsFormsUptoCardSaid : Prop := Claim7.holds Tryz.pinned (.plain (OpenSpec.upto errorsFormsSpec)) errorsFormsUptoCard
end Rows
end Go.Proofs.YtfhaailmhaamfaaGreatDoor
