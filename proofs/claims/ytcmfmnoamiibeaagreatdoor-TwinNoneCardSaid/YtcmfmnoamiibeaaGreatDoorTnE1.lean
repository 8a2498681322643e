/- TwinNone, evaluated (1). -/
import Derived.Test.YtcmfmnoamiibeaaGreatDoorTnKe
namespace Go.Ab.Tryz
open Go Go.Ab Go.Proofs
theorem evTwinNone2 : k9.lawOk (fsN T 99) 0 [.x (.sy 80 131074)] (heapOf bs) = true := by kernel_rfl
theorem evTwinNone3 : k9.lawOk (fsN T 99) 0 [.x (.sy 80 196611)] (heapOf bs) = true := by kernel_rfl
end Go.Ab.Tryz
