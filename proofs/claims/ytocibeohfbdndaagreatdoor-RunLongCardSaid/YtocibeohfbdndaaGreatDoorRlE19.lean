/- RunLong, evaluated (19). -/
import Derived.Test.YtocibeohfbdndaaGreatDoorRlKe
import Derived.Test.YtocibeohfbdndaaGreatDoorRlCxq
namespace Go.Ab.Tryz
open Go Go.Ab Go.Proofs
theorem evRunLong171 : k5.lawOk (fsN Tx_1 99) 0 [.x (.sy 99 5570645), .b true] (heapOf bs) = true := by kernel_rfl
theorem evRunLong172 : k5.lawOk (fsN Tx_1 99) 0 [.x (.sy 99 5636182), .b false] (heapOf bs) = true := by kernel_rfl
theorem evRunLong173 : k5.lawOk (fsN Tx_1 99) 0 [.x (.sy 99 5636182), .b true] (heapOf bs) = true := by kernel_rfl
theorem evRunLong174 : k5.lawOk (fsN Tx_1 99) 0 [.x (.sy 99 5701719), .b false] (heapOf bs) = true := by kernel_rfl
theorem evRunLong175 : k5.lawOk (fsN Tx_1 99) 0 [.x (.sy 99 5701719), .b true] (heapOf bs) = true := by kernel_rfl
theorem evRunLong176 : k5.lawOk (fsN Tx_1 99) 0 [.x (.sy 99 5767256), .b false] (heapOf bs) = true := by kernel_rfl
theorem evRunLong177 : k5.lawOk (fsN Tx_1 99) 0 [.x (.sy 99 5767256), .b true] (heapOf bs) = true := by kernel_rfl
theorem evRunLong178 : k5.lawOk (fsN Tx_1 99) 0 [.x (.sy 99 5832793), .b false] (heapOf bs) = true := by kernel_rfl
theorem evRunLong179 : k5.lawOk (fsN Tx_1 99) 0 [.x (.sy 99 5832793), .b true] (heapOf bs) = true := by kernel_rfl
end Go.Ab.Tryz
