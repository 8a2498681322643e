/- TwinNone, evaluated (4). -/
import Derived.Test.YtcmfmnoamiibeaaGreatDoorTnKe
namespace Go.Ab.Tryz
open Go Go.Ab Go.Proofs
theorem evTwinNone8 : k9.lawOk (fsN T 99) 0 [.x (.sy 80 524296)] (heapOf bs) = true := by kernel_rfl
theorem evTwinNone9 : k9.lawOk (fsN T 99) 0 [.x (.sy 80 589903)] (heapOf bs) = true := by kernel_rfl
end Go.Ab.Tryz
