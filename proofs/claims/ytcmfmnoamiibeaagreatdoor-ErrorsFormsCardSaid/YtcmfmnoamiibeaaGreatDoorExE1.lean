/- ErrorsForms, evaluated (1). -/
import Derived.Test.YtcmfmnoamiibeaaGreatDoorExKe
namespace Go.Ab.Tryz
open Go Go.Ab Go.Proofs
theorem evErrorsForms7 : k5.lawOk (fsN T 99) 200 [.x (.sy 13 458759)] (heapOf bs) = true := by kernel_rfl
theorem evErrorsForms8 : k5.lawOk (fsN T 99) 200 [.x (.sy 13 524296)] (heapOf bs) = true := by kernel_rfl
theorem evErrorsForms9 : k5.lawOk (fsN T 99) 200 [.x (.sy 13 589833)] (heapOf bs) = true := by kernel_rfl
theorem evErrorsForms10 : k5.lawOk (fsN T 99) 200 [.x (.sy 13 655370)] (heapOf bs) = true := by kernel_rfl
theorem evErrorsForms11 : k5.lawOk (fsN T 99) 200 [.x (.sy 13 720907)] (heapOf bs) = true := by kernel_rfl
theorem evErrorsForms12 : k5.lawOk (fsN T 99) 200 [.x (.sy 13 786444)] (heapOf bs) = true := by kernel_rfl
end Go.Ab.Tryz
