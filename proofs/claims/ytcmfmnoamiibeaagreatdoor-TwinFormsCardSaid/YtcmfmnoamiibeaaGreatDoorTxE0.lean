/- TwinForms, evaluated (0). -/
import Derived.Test.YtcmfmnoamiibeaaGreatDoorTxKe
namespace Go.Ab.Tryz
open Go Go.Ab Go.Proofs
theorem evTwinForms0 : k4.lawOk (fsN T 99) 200 [.x (.sy 7 0)] (heapOf bs) = true := by kernel_rfl
theorem evTwinForms1 : k4.lawOk (fsN T 99) 200 [.x (.sy 7 65537)] (heapOf bs) = true := by kernel_rfl
theorem evTwinForms2 : k4.lawOk (fsN T 99) 200 [.x (.sy 7 131074)] (heapOf bs) = true := by kernel_rfl
theorem evTwinForms3 : k4.lawOk (fsN T 99) 200 [.x (.sy 7 196611)] (heapOf bs) = true := by kernel_rfl
end Go.Ab.Tryz
