/- RunLong, evaluated (16). -/
import Derived.Test.YtocibeohfbdndaaGreatDoorRlKe
import Derived.Test.YtocibeohfbdndaaGreatDoorRlCxq
namespace Go.Ab.Tryz
open Go Go.Ab Go.Proofs
theorem evRunLong144 : k5.lawOk (fsN Tx_1 99) 0 [.x (.sy 99 4718664), .b false] (heapOf bs) = true := by kernel_rfl
theorem evRunLong145 : k5.lawOk (fsN Tx_1 99) 0 [.x (.sy 99 4718664), .b true] (heapOf bs) = true := by kernel_rfl
theorem evRunLong146 : k5.lawOk (fsN Tx_1 99) 0 [.x (.sy 99 4784201), .b false] (heapOf bs) = true := by kernel_rfl
theorem evRunLong147 : k5.lawOk (fsN Tx_1 99) 0 [.x (.sy 99 4784201), .b true] (heapOf bs) = true := by kernel_rfl
theorem evRunLong148 : k5.lawOk (fsN Tx_1 99) 0 [.x (.sy 99 4849738), .b false] (heapOf bs) = true := by kernel_rfl
theorem evRunLong149 : k5.lawOk (fsN Tx_1 99) 0 [.x (.sy 99 4849738), .b true] (heapOf bs) = true := by kernel_rfl
theorem evRunLong150 : k5.lawOk (fsN Tx_1 99) 0 [.x (.sy 99 4915275), .b false] (heapOf bs) = true := by kernel_rfl
theorem evRunLong151 : k5.lawOk (fsN Tx_1 99) 0 [.x (.sy 99 4915275), .b true] (heapOf bs) = true := by kernel_rfl
theorem evRunLong152 : k5.lawOk (fsN Tx_1 99) 0 [.x (.sy 99 4980812), .b false] (heapOf bs) = true := by kernel_rfl
end Go.Ab.Tryz
