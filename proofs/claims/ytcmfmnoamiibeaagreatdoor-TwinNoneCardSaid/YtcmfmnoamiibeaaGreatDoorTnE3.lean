/- TwinNone, evaluated (3). -/
import Derived.Test.YtcmfmnoamiibeaaGreatDoorTnKe
namespace Go.Ab.Tryz
open Go Go.Ab Go.Proofs
theorem evTwinNone6 : k9.lawOk (fsN T 99) 0 [.x (.sy 80 393222)] (heapOf bs) = true := by kernel_rfl
theorem evTwinNone7 : k9.lawOk (fsN T 99) 0 [.x (.sy 80 458759)] (heapOf bs) = true := by kernel_rfl
end Go.Ab.Tryz
