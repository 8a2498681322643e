/- RunForms, evaluated (1). -/
import Derived.Test.YtfhaailmhaamfaaGreatDoorRfKe
namespace Go.Ab.Tryz
open Go Go.Ab Go.Proofs
theorem evRunForms2 : k8.lawOk (fsN T 99) 200 [.x (.sy 60 655374)] (heapOf bs) = true := by kernel_rfl
theorem evRunForms3 : k8.lawOk (fsN T 99) 200 [.x (.sy 60 983059)] (heapOf bs) = true := by kernel_rfl
end Go.Ab.Tryz
