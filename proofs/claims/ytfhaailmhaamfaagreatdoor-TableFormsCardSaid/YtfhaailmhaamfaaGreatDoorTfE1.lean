/- TableForms, evaluated (1). -/
import Derived.Test.YtfhaailmhaamfaaGreatDoorTfKe
namespace Go.Ab.Tryz
open Go Go.Ab Go.Proofs
theorem evTableForms1 : k5.lawOk (fsN T 99) 200 [.x (.sy 2 65537)] (heapOf bs) = true := by kernel_rfl
end Go.Ab.Tryz
