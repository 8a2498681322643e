/- RunLong, evaluated (14). -/
import Derived.Test.YtocibeohfbdndaaGreatDoorRlKe
import Derived.Test.YtocibeohfbdndaaGreatDoorRlCxq
namespace Go.Ab.Tryz
open Go Go.Ab Go.Proofs
theorem evRunLong126 : k5.lawOk (fsN Tx_1 99) 0 [.x (.sy 99 4128831), .b false] (heapOf bs) = true := by kernel_rfl
theorem evRunLong127 : k5.lawOk (fsN Tx_1 99) 0 [.x (.sy 99 4128831), .b true] (heapOf bs) = true := by kernel_rfl
theorem evRunLong128 : k5.lawOk (fsN Tx_1 99) 0 [.x (.sy 99 4194368), .b false] (heapOf bs) = true := by kernel_rfl
theorem evRunLong129 : k5.lawOk (fsN Tx_1 99) 0 [.x (.sy 99 4194368), .b true] (heapOf bs) = true := by kernel_rfl
theorem evRunLong130 : k5.lawOk (fsN Tx_1 99) 0 [.x (.sy 99 4259905), .b false] (heapOf bs) = true := by kernel_rfl
theorem evRunLong131 : k5.lawOk (fsN Tx_1 99) 0 [.x (.sy 99 4259905), .b true] (heapOf bs) = true := by kernel_rfl
theorem evRunLong132 : k5.lawOk (fsN Tx_1 99) 0 [.x (.sy 99 4325442), .b false] (heapOf bs) = true := by kernel_rfl
theorem evRunLong133 : k5.lawOk (fsN Tx_1 99) 0 [.x (.sy 99 4325442), .b true] (heapOf bs) = true := by kernel_rfl
theorem evRunLong134 : k5.lawOk (fsN Tx_1 99) 0 [.x (.sy 99 4390979), .b false] (heapOf bs) = true := by kernel_rfl
end Go.Ab.Tryz
