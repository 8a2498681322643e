/- RunLong, evaluated (1). -/
import Derived.Test.YtocibeohfbdndaaGreatDoorRlKe
import Derived.Test.YtocibeohfbdndaaGreatDoorRlCxq
namespace Go.Ab.Tryz
open Go Go.Ab Go.Proofs
theorem evRunLong9 : k5.lawOk (fsN Tx_1 99) 0 [.x (.sy 99 262148), .b true] (heapOf bs) = true := by kernel_rfl
theorem evRunLong10 : k5.lawOk (fsN Tx_1 99) 0 [.x (.sy 99 327685), .b false] (heapOf bs) = true := by kernel_rfl
theorem evRunLong11 : k5.lawOk (fsN Tx_1 99) 0 [.x (.sy 99 327685), .b true] (heapOf bs) = true := by kernel_rfl
theorem evRunLong12 : k5.lawOk (fsN Tx_1 99) 0 [.x (.sy 99 393222), .b false] (heapOf bs) = true := by kernel_rfl
theorem evRunLong13 : k5.lawOk (fsN Tx_1 99) 0 [.x (.sy 99 393222), .b true] (heapOf bs) = true := by kernel_rfl
theorem evRunLong14 : k5.lawOk (fsN Tx_1 99) 0 [.x (.sy 99 458759), .b false] (heapOf bs) = true := by kernel_rfl
theorem evRunLong15 : k5.lawOk (fsN Tx_1 99) 0 [.x (.sy 99 458759), .b true] (heapOf bs) = true := by kernel_rfl
theorem evRunLong16 : k5.lawOk (fsN Tx_1 99) 0 [.x (.sy 99 524296), .b false] (heapOf bs) = true := by kernel_rfl
theorem evRunLong17 : k5.lawOk (fsN Tx_1 99) 0 [.x (.sy 99 524296), .b true] (heapOf bs) = true := by kernel_rfl
end Go.Ab.Tryz
