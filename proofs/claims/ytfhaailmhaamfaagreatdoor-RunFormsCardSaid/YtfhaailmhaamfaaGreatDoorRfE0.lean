/- RunForms, evaluated (0). -/
import Derived.Test.YtfhaailmhaamfaaGreatDoorRfKe
namespace Go.Ab.Tryz
open Go Go.Ab Go.Proofs
theorem evRunForms0 : k8.lawOk (fsN T 99) 200 [.x (.sy 60 4)] (heapOf bs) = true := by kernel_rfl
theorem evRunForms1 : k8.lawOk (fsN T 99) 200 [.x (.sy 60 327689)] (heapOf bs) = true := by kernel_rfl
end Go.Ab.Tryz
