/- RunForms, evaluated (5). -/
import Derived.Test.YtfhaailmhaamfaaGreatDoorRfKe
namespace Go.Ab.Tryz
open Go Go.Ab Go.Proofs
theorem evRunForms10 : k8.lawOk (fsN T 99) 200 [.x (.sy 60 3276854)] (heapOf bs) = true := by kernel_rfl
theorem evRunForms11 : k8.lawOk (fsN T 99) 200 [.x (.sy 60 3604539)] (heapOf bs) = true := by kernel_rfl
end Go.Ab.Tryz
