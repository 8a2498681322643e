/- RunLong, evaluated (7). -/
import Derived.Test.YtocibeohfbdndaaGreatDoorRlKe
import Derived.Test.YtocibeohfbdndaaGreatDoorRlCxq
namespace Go.Ab.Tryz
open Go Go.Ab Go.Proofs
theorem evRunLong63 : k5.lawOk (fsN Tx_1 99) 0 [.x (.sy 99 2031647), .b true] (heapOf bs) = true := by kernel_rfl
theorem evRunLong64 : k5.lawOk (fsN Tx_1 99) 0 [.x (.sy 99 2097184), .b false] (heapOf bs) = true := by kernel_rfl
theorem evRunLong65 : k5.lawOk (fsN Tx_1 99) 0 [.x (.sy 99 2097184), .b true] (heapOf bs) = true := by kernel_rfl
theorem evRunLong66 : k5.lawOk (fsN Tx_1 99) 0 [.x (.sy 99 2162721), .b false] (heapOf bs) = true := by kernel_rfl
theorem evRunLong67 : k5.lawOk (fsN Tx_1 99) 0 [.x (.sy 99 2162721), .b true] (heapOf bs) = true := by kernel_rfl
theorem evRunLong68 : k5.lawOk (fsN Tx_1 99) 0 [.x (.sy 99 2228258), .b false] (heapOf bs) = true := by kernel_rfl
theorem evRunLong69 : k5.lawOk (fsN Tx_1 99) 0 [.x (.sy 99 2228258), .b true] (heapOf bs) = true := by kernel_rfl
theorem evRunLong70 : k5.lawOk (fsN Tx_1 99) 0 [.x (.sy 99 2293795), .b false] (heapOf bs) = true := by kernel_rfl
theorem evRunLong71 : k5.lawOk (fsN Tx_1 99) 0 [.x (.sy 99 2293795), .b true] (heapOf bs) = true := by kernel_rfl
end Go.Ab.Tryz
