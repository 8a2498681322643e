/- RunForms, evaluated (4). -/
import Derived.Test.YtfhaailmhaamfaaGreatDoorRfKe
namespace Go.Ab.Tryz
open Go Go.Ab Go.Proofs
theorem evRunForms8 : k8.lawOk (fsN T 99) 200 [.x (.sy 60 2621484)] (heapOf bs) = true := by kernel_rfl
theorem evRunForms9 : k8.lawOk (fsN T 99) 200 [.x (.sy 60 2949169)] (heapOf bs) = true := by kernel_rfl
end Go.Ab.Tryz
