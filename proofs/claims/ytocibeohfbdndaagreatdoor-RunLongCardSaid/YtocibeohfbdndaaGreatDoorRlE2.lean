/- RunLong, evaluated (2). -/
import Derived.Test.YtocibeohfbdndaaGreatDoorRlKe
import Derived.Test.YtocibeohfbdndaaGreatDoorRlCxq
namespace Go.Ab.Tryz
open Go Go.Ab Go.Proofs
theorem evRunLong18 : k5.lawOk (fsN Tx_1 99) 0 [.x (.sy 99 589833), .b false] (heapOf bs) = true := by kernel_rfl
theorem evRunLong19 : k5.lawOk (fsN Tx_1 99) 0 [.x (.sy 99 589833), .b true] (heapOf bs) = true := by kernel_rfl
theorem evRunLong20 : k5.lawOk (fsN Tx_1 99) 0 [.x (.sy 99 655370), .b false] (heapOf bs) = true := by kernel_rfl
theorem evRunLong21 : k5.lawOk (fsN Tx_1 99) 0 [.x (.sy 99 655370), .b true] (heapOf bs) = true := by kernel_rfl
theorem evRunLong22 : k5.lawOk (fsN Tx_1 99) 0 [.x (.sy 99 720907), .b false] (heapOf bs) = true := by kernel_rfl
theorem evRunLong23 : k5.lawOk (fsN Tx_1 99) 0 [.x (.sy 99 720907), .b true] (heapOf bs) = true := by kernel_rfl
theorem evRunLong24 : k5.lawOk (fsN Tx_1 99) 0 [.x (.sy 99 786444), .b false] (heapOf bs) = true := by kernel_rfl
theorem evRunLong25 : k5.lawOk (fsN Tx_1 99) 0 [.x (.sy 99 786444), .b true] (heapOf bs) = true := by kernel_rfl
theorem evRunLong26 : k5.lawOk (fsN Tx_1 99) 0 [.x (.sy 99 851981), .b false] (heapOf bs) = true := by kernel_rfl
end Go.Ab.Tryz
