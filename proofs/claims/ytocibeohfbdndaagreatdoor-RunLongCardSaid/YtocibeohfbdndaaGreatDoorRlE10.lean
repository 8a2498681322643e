/- RunLong, evaluated (10). -/
import Derived.Test.YtocibeohfbdndaaGreatDoorRlKe
import Derived.Test.YtocibeohfbdndaaGreatDoorRlCxq
namespace Go.Ab.Tryz
open Go Go.Ab Go.Proofs
theorem evRunLong90 : k5.lawOk (fsN Tx_1 99) 0 [.x (.sy 99 2949165), .b false] (heapOf bs) = true := by kernel_rfl
theorem evRunLong91 : k5.lawOk (fsN Tx_1 99) 0 [.x (.sy 99 2949165), .b true] (heapOf bs) = true := by kernel_rfl
theorem evRunLong92 : k5.lawOk (fsN Tx_1 99) 0 [.x (.sy 99 3014702), .b false] (heapOf bs) = true := by kernel_rfl
theorem evRunLong93 : k5.lawOk (fsN Tx_1 99) 0 [.x (.sy 99 3014702), .b true] (heapOf bs) = true := by kernel_rfl
theorem evRunLong94 : k5.lawOk (fsN Tx_1 99) 0 [.x (.sy 99 3080239), .b false] (heapOf bs) = true := by kernel_rfl
theorem evRunLong95 : k5.lawOk (fsN Tx_1 99) 0 [.x (.sy 99 3080239), .b true] (heapOf bs) = true := by kernel_rfl
theorem evRunLong96 : k5.lawOk (fsN Tx_1 99) 0 [.x (.sy 99 3145776), .b false] (heapOf bs) = true := by kernel_rfl
theorem evRunLong97 : k5.lawOk (fsN Tx_1 99) 0 [.x (.sy 99 3145776), .b true] (heapOf bs) = true := by kernel_rfl
theorem evRunLong98 : k5.lawOk (fsN Tx_1 99) 0 [.x (.sy 99 3211313), .b false] (heapOf bs) = true := by kernel_rfl
end Go.Ab.Tryz
