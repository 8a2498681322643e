/- TwinNone, evaluated (2). -/
import Derived.Test.YtcmfmnoamiibeaaGreatDoorTnKe
namespace Go.Ab.Tryz
open Go Go.Ab Go.Proofs
theorem evTwinNone4 : k9.lawOk (fsN T 99) 0 [.x (.sy 80 262148)] (heapOf bs) = true := by kernel_rfl
theorem evTwinNone5 : k9.lawOk (fsN T 99) 0 [.x (.sy 80 327685)] (heapOf bs) = true := by kernel_rfl
end Go.Ab.Tryz
