/- TableForms, evaluated (0). -/
import Derived.Test.YtfhaailmhaamfaaGreatDoorTfKe
namespace Go.Ab.Tryz
open Go Go.Ab Go.Proofs
theorem evTableForms0 : k5.lawOk (fsN T 99) 200 [.x (.sy 2 0)] (heapOf bs) = true := by kernel_rfl
end Go.Ab.Tryz
