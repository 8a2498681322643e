/- RunLong, evaluated (4). -/
import Derived.Test.YtocibeohfbdndaaGreatDoorRlKe
import Derived.Test.YtocibeohfbdndaaGreatDoorRlCxq
namespace Go.Ab.Tryz
open Go Go.Ab Go.Proofs
theorem evRunLong36 : k5.lawOk (fsN Tx_1 99) 0 [.x (.sy 99 1179666), .b false] (heapOf bs) = true := by kernel_rfl
theorem evRunLong37 : k5.lawOk (fsN Tx_1 99) 0 [.x (.sy 99 1179666), .b true] (heapOf bs) = true := by kernel_rfl
theorem evRunLong38 : k5.lawOk (fsN Tx_1 99) 0 [.x (.sy 99 1245203), .b false] (heapOf bs) = true := by kernel_rfl
theorem evRunLong39 : k5.lawOk (fsN Tx_1 99) 0 [.x (.sy 99 1245203), .b true] (heapOf bs) = true := by kernel_rfl
theorem evRunLong40 : k5.lawOk (fsN Tx_1 99) 0 [.x (.sy 99 1310740), .b false] (heapOf bs) = true := by kernel_rfl
theorem evRunLong41 : k5.lawOk (fsN Tx_1 99) 0 [.x (.sy 99 1310740), .b true] (heapOf bs) = true := by kernel_rfl
theorem evRunLong42 : k5.lawOk (fsN Tx_1 99) 0 [.x (.sy 99 1376277), .b false] (heapOf bs) = true := by kernel_rfl
theorem evRunLong43 : k5.lawOk (fsN Tx_1 99) 0 [.x (.sy 99 1376277), .b true] (heapOf bs) = true := by kernel_rfl
theorem evRunLong44 : k5.lawOk (fsN Tx_1 99) 0 [.x (.sy 99 1441814), .b false] (heapOf bs) = true := by kernel_rfl
end Go.Ab.Tryz
