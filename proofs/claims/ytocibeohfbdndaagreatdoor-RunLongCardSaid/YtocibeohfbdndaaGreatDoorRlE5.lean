/- RunLong, evaluated (5). -/
import Derived.Test.YtocibeohfbdndaaGreatDoorRlKe
import Derived.Test.YtocibeohfbdndaaGreatDoorRlCxq
namespace Go.Ab.Tryz
open Go Go.Ab Go.Proofs
theorem evRunLong45 : k5.lawOk (fsN Tx_1 99) 0 [.x (.sy 99 1441814), .b true] (heapOf bs) = true := by kernel_rfl
theorem evRunLong46 : k5.lawOk (fsN Tx_1 99) 0 [.x (.sy 99 1507351), .b false] (heapOf bs) = true := by kernel_rfl
theorem evRunLong47 : k5.lawOk (fsN Tx_1 99) 0 [.x (.sy 99 1507351), .b true] (heapOf bs) = true := by kernel_rfl
theorem evRunLong48 : k5.lawOk (fsN Tx_1 99) 0 [.x (.sy 99 1572888), .b false] (heapOf bs) = true := by kernel_rfl
theorem evRunLong49 : k5.lawOk (fsN Tx_1 99) 0 [.x (.sy 99 1572888), .b true] (heapOf bs) = true := by kernel_rfl
theorem evRunLong50 : k5.lawOk (fsN Tx_1 99) 0 [.x (.sy 99 1638425), .b false] (heapOf bs) = true := by kernel_rfl
theorem evRunLong51 : k5.lawOk (fsN Tx_1 99) 0 [.x (.sy 99 1638425), .b true] (heapOf bs) = true := by kernel_rfl
theorem evRunLong52 : k5.lawOk (fsN Tx_1 99) 0 [.x (.sy 99 1703962), .b false] (heapOf bs) = true := by kernel_rfl
theorem evRunLong53 : k5.lawOk (fsN Tx_1 99) 0 [.x (.sy 99 1703962), .b true] (heapOf bs) = true := by kernel_rfl
end Go.Ab.Tryz
