/- RunForms, evaluated (3). -/
import Derived.Test.YtfhaailmhaamfaaGreatDoorRfKe
namespace Go.Ab.Tryz
open Go Go.Ab Go.Proofs
theorem evRunForms6 : k8.lawOk (fsN T 99) 200 [.x (.sy 60 1966114)] (heapOf bs) = true := by kernel_rfl
theorem evRunForms7 : k8.lawOk (fsN T 99) 200 [.x (.sy 60 2293799)] (heapOf bs) = true := by kernel_rfl
end Go.Ab.Tryz
