/- TwinNone, evaluated (0). -/
import Derived.Test.YtcmfmnoamiibeaaGreatDoorTnKe
namespace Go.Ab.Tryz
open Go Go.Ab Go.Proofs
theorem evTwinNone0 : k9.lawOk (fsN T 99) 0 [.x (.sy 80 0)] (heapOf bs) = true := by kernel_rfl
theorem evTwinNone1 : k9.lawOk (fsN T 99) 0 [.x (.sy 80 65537)] (heapOf bs) = true := by kernel_rfl
end Go.Ab.Tryz
