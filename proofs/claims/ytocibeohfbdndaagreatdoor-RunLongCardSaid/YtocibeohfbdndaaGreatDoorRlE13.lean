/- RunLong, evaluated (13). -/
import Derived.Test.YtocibeohfbdndaaGreatDoorRlKe
import Derived.Test.YtocibeohfbdndaaGreatDoorRlCxq
namespace Go.Ab.Tryz
open Go Go.Ab Go.Proofs
theorem evRunLong117 : k5.lawOk (fsN Tx_1 99) 0 [.x (.sy 99 3801146), .b true] (heapOf bs) = true := by kernel_rfl
theorem evRunLong118 : k5.lawOk (fsN Tx_1 99) 0 [.x (.sy 99 3866683), .b false] (heapOf bs) = true := by kernel_rfl
theorem evRunLong119 : k5.lawOk (fsN Tx_1 99) 0 [.x (.sy 99 3866683), .b true] (heapOf bs) = true := by kernel_rfl
theorem evRunLong120 : k5.lawOk (fsN Tx_1 99) 0 [.x (.sy 99 3932220), .b false] (heapOf bs) = true := by kernel_rfl
theorem evRunLong121 : k5.lawOk (fsN Tx_1 99) 0 [.x (.sy 99 3932220), .b true] (heapOf bs) = true := by kernel_rfl
theorem evRunLong122 : k5.lawOk (fsN Tx_1 99) 0 [.x (.sy 99 3997757), .b false] (heapOf bs) = true := by kernel_rfl
theorem evRunLong123 : k5.lawOk (fsN Tx_1 99) 0 [.x (.sy 99 3997757), .b true] (heapOf bs) = true := by kernel_rfl
theorem evRunLong124 : k5.lawOk (fsN Tx_1 99) 0 [.x (.sy 99 4063294), .b false] (heapOf bs) = true := by kernel_rfl
theorem evRunLong125 : k5.lawOk (fsN Tx_1 99) 0 [.x (.sy 99 4063294), .b true] (heapOf bs) = true := by kernel_rfl
end Go.Ab.Tryz
