/- RunLong, evaluated (21). -/
import Derived.Test.YtocibeohfbdndaaGreatDoorRlKe
import Derived.Test.YtocibeohfbdndaaGreatDoorRlCxq
namespace Go.Ab.Tryz
open Go Go.Ab Go.Proofs
theorem evRunLong189 : k5.lawOk (fsN Tx_1 99) 0 [.x (.sy 99 6160478), .b true] (heapOf bs) = true := by kernel_rfl
theorem evRunLong190 : k5.lawOk (fsN Tx_1 99) 0 [.x (.sy 99 6226015), .b false] (heapOf bs) = true := by kernel_rfl
theorem evRunLong191 : k5.lawOk (fsN Tx_1 99) 0 [.x (.sy 99 6226015), .b true] (heapOf bs) = true := by kernel_rfl
theorem evRunLong192 : k5.lawOk (fsN Tx_1 99) 0 [.x (.sy 99 6291552), .b false] (heapOf bs) = true := by kernel_rfl
theorem evRunLong193 : k5.lawOk (fsN Tx_1 99) 0 [.x (.sy 99 6291552), .b true] (heapOf bs) = true := by kernel_rfl
theorem evRunLong194 : k5.lawOk (fsN Tx_1 99) 0 [.x (.sy 99 6357089), .b false] (heapOf bs) = true := by kernel_rfl
theorem evRunLong195 : k5.lawOk (fsN Tx_1 99) 0 [.x (.sy 99 6357089), .b true] (heapOf bs) = true := by kernel_rfl
theorem evRunLong196 : k5.lawOk (fsN Tx_1 99) 0 [.x (.sy 99 6422626), .b false] (heapOf bs) = true := by kernel_rfl
theorem evRunLong197 : k5.lawOk (fsN Tx_1 99) 0 [.x (.sy 99 6422626), .b true] (heapOf bs) = true := by kernel_rfl
end Go.Ab.Tryz
