/- RunLong, evaluated (0). -/
import Derived.Test.YtocibeohfbdndaaGreatDoorRlKe
import Derived.Test.YtocibeohfbdndaaGreatDoorRlCxq
namespace Go.Ab.Tryz
open Go Go.Ab Go.Proofs
theorem evRunLong0 : k5.lawOk (fsN Tx_1 99) 0 [.x (.sy 99 0), .b false] (heapOf bs) = true := by kernel_rfl
theorem evRunLong1 : k5.lawOk (fsN Tx_1 99) 0 [.x (.sy 99 0), .b true] (heapOf bs) = true := by kernel_rfl
theorem evRunLong2 : k5.lawOk (fsN Tx_1 99) 0 [.x (.sy 99 65537), .b false] (heapOf bs) = true := by kernel_rfl
theorem evRunLong3 : k5.lawOk (fsN Tx_1 99) 0 [.x (.sy 99 65537), .b true] (heapOf bs) = true := by kernel_rfl
theorem evRunLong4 : k5.lawOk (fsN Tx_1 99) 0 [.x (.sy 99 131074), .b false] (heapOf bs) = true := by kernel_rfl
theorem evRunLong5 : k5.lawOk (fsN Tx_1 99) 0 [.x (.sy 99 131074), .b true] (heapOf bs) = true := by kernel_rfl
theorem evRunLong6 : k5.lawOk (fsN Tx_1 99) 0 [.x (.sy 99 196611), .b false] (heapOf bs) = true := by kernel_rfl
theorem evRunLong7 : k5.lawOk (fsN Tx_1 99) 0 [.x (.sy 99 196611), .b true] (heapOf bs) = true := by kernel_rfl
theorem evRunLong8 : k5.lawOk (fsN Tx_1 99) 0 [.x (.sy 99 262148), .b false] (heapOf bs) = true := by kernel_rfl
end Go.Ab.Tryz
