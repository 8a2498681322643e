/- RunForms, evaluated (2). -/
import Derived.Test.YtfhaailmhaamfaaGreatDoorRfKe
namespace Go.Ab.Tryz
open Go Go.Ab Go.Proofs
theorem evRunForms4 : k8.lawOk (fsN T 99) 200 [.x (.sy 60 1310744)] (heapOf bs) = true := by kernel_rfl
theorem evRunForms5 : k8.lawOk (fsN T 99) 200 [.x (.sy 60 1638429)] (heapOf bs) = true := by kernel_rfl
end Go.Ab.Tryz
