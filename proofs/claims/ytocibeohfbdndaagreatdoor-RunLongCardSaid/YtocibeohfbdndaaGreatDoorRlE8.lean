/- RunLong, evaluated (8). -/
import Derived.Test.YtocibeohfbdndaaGreatDoorRlKe
import Derived.Test.YtocibeohfbdndaaGreatDoorRlCxq
namespace Go.Ab.Tryz
open Go Go.Ab Go.Proofs
theorem evRunLong72 : k5.lawOk (fsN Tx_1 99) 0 [.x (.sy 99 2359332), .b false] (heapOf bs) = true := by kernel_rfl
theorem evRunLong73 : k5.lawOk (fsN Tx_1 99) 0 [.x (.sy 99 2359332), .b true] (heapOf bs) = true := by kernel_rfl
theorem evRunLong74 : k5.lawOk (fsN Tx_1 99) 0 [.x (.sy 99 2424869), .b false] (heapOf bs) = true := by kernel_rfl
theorem evRunLong75 : k5.lawOk (fsN Tx_1 99) 0 [.x (.sy 99 2424869), .b true] (heapOf bs) = true := by kernel_rfl
theorem evRunLong76 : k5.lawOk (fsN Tx_1 99) 0 [.x (.sy 99 2490406), .b false] (heapOf bs) = true := by kernel_rfl
theorem evRunLong77 : k5.lawOk (fsN Tx_1 99) 0 [.x (.sy 99 2490406), .b true] (heapOf bs) = true := by kernel_rfl
theorem evRunLong78 : k5.lawOk (fsN Tx_1 99) 0 [.x (.sy 99 2555943), .b false] (heapOf bs) = true := by kernel_rfl
theorem evRunLong79 : k5.lawOk (fsN Tx_1 99) 0 [.x (.sy 99 2555943), .b true] (heapOf bs) = true := by kernel_rfl
theorem evRunLong80 : k5.lawOk (fsN Tx_1 99) 0 [.x (.sy 99 2621480), .b false] (heapOf bs) = true := by kernel_rfl
end Go.Ab.Tryz
