/- TwinForms, evaluated (1). -/
import Derived.Test.YtcmfmnoamiibeaaGreatDoorTxKe
namespace Go.Ab.Tryz
open Go Go.Ab Go.Proofs
theorem evTwinForms4 : k4.lawOk (fsN T 99) 200 [.x (.sy 7 262148)] (heapOf bs) = true := by kernel_rfl
theorem evTwinForms5 : k4.lawOk (fsN T 99) 200 [.x (.sy 7 327685)] (heapOf bs) = true := by kernel_rfl
theorem evTwinForms6 : k4.lawOk (fsN T 99) 200 [.x (.sy 7 393222)] (heapOf bs) = true := by kernel_rfl
end Go.Ab.Tryz
