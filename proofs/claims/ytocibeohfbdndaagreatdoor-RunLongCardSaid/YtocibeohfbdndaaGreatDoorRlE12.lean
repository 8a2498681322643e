/- RunLong, evaluated (12). -/
import Derived.Test.YtocibeohfbdndaaGreatDoorRlKe
import Derived.Test.YtocibeohfbdndaaGreatDoorRlCxq
namespace Go.Ab.Tryz
open Go Go.Ab Go.Proofs
theorem evRunLong108 : k5.lawOk (fsN Tx_1 99) 0 [.x (.sy 99 3538998), .b false] (heapOf bs) = true := by kernel_rfl
theorem evRunLong109 : k5.lawOk (fsN Tx_1 99) 0 [.x (.sy 99 3538998), .b true] (heapOf bs) = true := by kernel_rfl
theorem evRunLong110 : k5.lawOk (fsN Tx_1 99) 0 [.x (.sy 99 3604535), .b false] (heapOf bs) = true := by kernel_rfl
theorem evRunLong111 : k5.lawOk (fsN Tx_1 99) 0 [.x (.sy 99 3604535), .b true] (heapOf bs) = true := by kernel_rfl
theorem evRunLong112 : k5.lawOk (fsN Tx_1 99) 0 [.x (.sy 99 3670072), .b false] (heapOf bs) = true := by kernel_rfl
theorem evRunLong113 : k5.lawOk (fsN Tx_1 99) 0 [.x (.sy 99 3670072), .b true] (heapOf bs) = true := by kernel_rfl
theorem evRunLong114 : k5.lawOk (fsN Tx_1 99) 0 [.x (.sy 99 3735609), .b false] (heapOf bs) = true := by kernel_rfl
theorem evRunLong115 : k5.lawOk (fsN Tx_1 99) 0 [.x (.sy 99 3735609), .b true] (heapOf bs) = true := by kernel_rfl
theorem evRunLong116 : k5.lawOk (fsN Tx_1 99) 0 [.x (.sy 99 3801146), .b false] (heapOf bs) = true := by kernel_rfl
end Go.Ab.Tryz
