/- RunLong, evaluated (15). -/
import Derived.Test.YtocibeohfbdndaaGreatDoorRlKe
import Derived.Test.YtocibeohfbdndaaGreatDoorRlCxq
namespace Go.Ab.Tryz
open Go Go.Ab Go.Proofs
theorem evRunLong135 : k5.lawOk (fsN Tx_1 99) 0 [.x (.sy 99 4390979), .b true] (heapOf bs) = true := by kernel_rfl
theorem evRunLong136 : k5.lawOk (fsN Tx_1 99) 0 [.x (.sy 99 4456516), .b false] (heapOf bs) = true := by kernel_rfl
theorem evRunLong137 : k5.lawOk (fsN Tx_1 99) 0 [.x (.sy 99 4456516), .b true] (heapOf bs) = true := by kernel_rfl
theorem evRunLong138 : k5.lawOk (fsN Tx_1 99) 0 [.x (.sy 99 4522053), .b false] (heapOf bs) = true := by kernel_rfl
theorem evRunLong139 : k5.lawOk (fsN Tx_1 99) 0 [.x (.sy 99 4522053), .b true] (heapOf bs) = true := by kernel_rfl
theorem evRunLong140 : k5.lawOk (fsN Tx_1 99) 0 [.x (.sy 99 4587590), .b false] (heapOf bs) = true := by kernel_rfl
theorem evRunLong141 : k5.lawOk (fsN Tx_1 99) 0 [.x (.sy 99 4587590), .b true] (heapOf bs) = true := by kernel_rfl
theorem evRunLong142 : k5.lawOk (fsN Tx_1 99) 0 [.x (.sy 99 4653127), .b false] (heapOf bs) = true := by kernel_rfl
theorem evRunLong143 : k5.lawOk (fsN Tx_1 99) 0 [.x (.sy 99 4653127), .b true] (heapOf bs) = true := by kernel_rfl
end Go.Ab.Tryz
