/- RunLong, evaluated (17). -/
import Derived.Test.YtocibeohfbdndaaGreatDoorRlKe
import Derived.Test.YtocibeohfbdndaaGreatDoorRlCxq
namespace Go.Ab.Tryz
open Go Go.Ab Go.Proofs
theorem evRunLong153 : k5.lawOk (fsN Tx_1 99) 0 [.x (.sy 99 4980812), .b true] (heapOf bs) = true := by kernel_rfl
theorem evRunLong154 : k5.lawOk (fsN Tx_1 99) 0 [.x (.sy 99 5046349), .b false] (heapOf bs) = true := by kernel_rfl
theorem evRunLong155 : k5.lawOk (fsN Tx_1 99) 0 [.x (.sy 99 5046349), .b true] (heapOf bs) = true := by kernel_rfl
theorem evRunLong156 : k5.lawOk (fsN Tx_1 99) 0 [.x (.sy 99 5111886), .b false] (heapOf bs) = true := by kernel_rfl
theorem evRunLong157 : k5.lawOk (fsN Tx_1 99) 0 [.x (.sy 99 5111886), .b true] (heapOf bs) = true := by kernel_rfl
theorem evRunLong158 : k5.lawOk (fsN Tx_1 99) 0 [.x (.sy 99 5177423), .b false] (heapOf bs) = true := by kernel_rfl
theorem evRunLong159 : k5.lawOk (fsN Tx_1 99) 0 [.x (.sy 99 5177423), .b true] (heapOf bs) = true := by kernel_rfl
theorem evRunLong160 : k5.lawOk (fsN Tx_1 99) 0 [.x (.sy 99 5242960), .b false] (heapOf bs) = true := by kernel_rfl
theorem evRunLong161 : k5.lawOk (fsN Tx_1 99) 0 [.x (.sy 99 5242960), .b true] (heapOf bs) = true := by kernel_rfl
end Go.Ab.Tryz
