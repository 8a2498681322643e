/- RunLong, evaluated (20). -/
import Derived.Test.YtocibeohfbdndaaGreatDoorRlKe
import Derived.Test.YtocibeohfbdndaaGreatDoorRlCxq
namespace Go.Ab.Tryz
open Go Go.Ab Go.Proofs
theorem evRunLong180 : k5.lawOk (fsN Tx_1 99) 0 [.x (.sy 99 5898330), .b false] (heapOf bs) = true := by kernel_rfl
theorem evRunLong181 : k5.lawOk (fsN Tx_1 99) 0 [.x (.sy 99 5898330), .b true] (heapOf bs) = true := by kernel_rfl
theorem evRunLong182 : k5.lawOk (fsN Tx_1 99) 0 [.x (.sy 99 5963867), .b false] (heapOf bs) = true := by kernel_rfl
theorem evRunLong183 : k5.lawOk (fsN Tx_1 99) 0 [.x (.sy 99 5963867), .b true] (heapOf bs) = true := by kernel_rfl
theorem evRunLong184 : k5.lawOk (fsN Tx_1 99) 0 [.x (.sy 99 6029404), .b false] (heapOf bs) = true := by kernel_rfl
theorem evRunLong185 : k5.lawOk (fsN Tx_1 99) 0 [.x (.sy 99 6029404), .b true] (heapOf bs) = true := by kernel_rfl
theorem evRunLong186 : k5.lawOk (fsN Tx_1 99) 0 [.x (.sy 99 6094941), .b false] (heapOf bs) = true := by kernel_rfl
theorem evRunLong187 : k5.lawOk (fsN Tx_1 99) 0 [.x (.sy 99 6094941), .b true] (heapOf bs) = true := by kernel_rfl
theorem evRunLong188 : k5.lawOk (fsN Tx_1 99) 0 [.x (.sy 99 6160478), .b false] (heapOf bs) = true := by kernel_rfl
end Go.Ab.Tryz
