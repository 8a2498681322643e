/- ErrorsForms, evaluated (0). -/
import Derived.Test.YtcmfmnoamiibeaaGreatDoorExKe
namespace Go.Ab.Tryz
open Go Go.Ab Go.Proofs
theorem evErrorsForms0 : k5.lawOk (fsN T 99) 200 [.x (.sy 13 0)] (heapOf bs) = true := by kernel_rfl
theorem evErrorsForms1 : k5.lawOk (fsN T 99) 200 [.x (.sy 13 65537)] (heapOf bs) = true := by kernel_rfl
theorem evErrorsForms2 : k5.lawOk (fsN T 99) 200 [.x (.sy 13 131074)] (heapOf bs) = true := by kernel_rfl
theorem evErrorsForms3 : k5.lawOk (fsN T 99) 200 [.x (.sy 13 196611)] (heapOf bs) = true := by kernel_rfl
theorem evErrorsForms4 : k5.lawOk (fsN T 99) 200 [.x (.sy 13 262148)] (heapOf bs) = true := by kernel_rfl
theorem evErrorsForms5 : k5.lawOk (fsN T 99) 200 [.x (.sy 13 327685)] (heapOf bs) = true := by kernel_rfl
theorem evErrorsForms6 : k5.lawOk (fsN T 99) 200 [.x (.sy 13 393222)] (heapOf bs) = true := by kernel_rfl
end Go.Ab.Tryz
