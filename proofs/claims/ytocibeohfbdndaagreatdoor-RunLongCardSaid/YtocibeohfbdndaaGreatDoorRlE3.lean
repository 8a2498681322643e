/- RunLong, evaluated (3). -/
import Derived.Test.YtocibeohfbdndaaGreatDoorRlKe
import Derived.Test.YtocibeohfbdndaaGreatDoorRlCxq
namespace Go.Ab.Tryz
open Go Go.Ab Go.Proofs
theorem evRunLong27 : k5.lawOk (fsN Tx_1 99) 0 [.x (.sy 99 851981), .b true] (heapOf bs) = true := by kernel_rfl
theorem evRunLong28 : k5.lawOk (fsN Tx_1 99) 0 [.x (.sy 99 917518), .b false] (heapOf bs) = true := by kernel_rfl
theorem evRunLong29 : k5.lawOk (fsN Tx_1 99) 0 [.x (.sy 99 917518), .b true] (heapOf bs) = true := by kernel_rfl
theorem evRunLong30 : k5.lawOk (fsN Tx_1 99) 0 [.x (.sy 99 983055), .b false] (heapOf bs) = true := by kernel_rfl
theorem evRunLong31 : k5.lawOk (fsN Tx_1 99) 0 [.x (.sy 99 983055), .b true] (heapOf bs) = true := by kernel_rfl
theorem evRunLong32 : k5.lawOk (fsN Tx_1 99) 0 [.x (.sy 99 1048592), .b false] (heapOf bs) = true := by kernel_rfl
theorem evRunLong33 : k5.lawOk (fsN Tx_1 99) 0 [.x (.sy 99 1048592), .b true] (heapOf bs) = true := by kernel_rfl
theorem evRunLong34 : k5.lawOk (fsN Tx_1 99) 0 [.x (.sy 99 1114129), .b false] (heapOf bs) = true := by kernel_rfl
theorem evRunLong35 : k5.lawOk (fsN Tx_1 99) 0 [.x (.sy 99 1114129), .b true] (heapOf bs) = true := by kernel_rfl
end Go.Ab.Tryz
