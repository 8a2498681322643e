/- RunLong, evaluated (6). -/
import Derived.Test.YtocibeohfbdndaaGreatDoorRlKe
import Derived.Test.YtocibeohfbdndaaGreatDoorRlCxq
namespace Go.Ab.Tryz
open Go Go.Ab Go.Proofs
theorem evRunLong54 : k5.lawOk (fsN Tx_1 99) 0 [.x (.sy 99 1769499), .b false] (heapOf bs) = true := by kernel_rfl
theorem evRunLong55 : k5.lawOk (fsN Tx_1 99) 0 [.x (.sy 99 1769499), .b true] (heapOf bs) = true := by kernel_rfl
theorem evRunLong56 : k5.lawOk (fsN Tx_1 99) 0 [.x (.sy 99 1835036), .b false] (heapOf bs) = true := by kernel_rfl
theorem evRunLong57 : k5.lawOk (fsN Tx_1 99) 0 [.x (.sy 99 1835036), .b true] (heapOf bs) = true := by kernel_rfl
theorem evRunLong58 : k5.lawOk (fsN Tx_1 99) 0 [.x (.sy 99 1900573), .b false] (heapOf bs) = true := by kernel_rfl
theorem evRunLong59 : k5.lawOk (fsN Tx_1 99) 0 [.x (.sy 99 1900573), .b true] (heapOf bs) = true := by kernel_rfl
theorem evRunLong60 : k5.lawOk (fsN Tx_1 99) 0 [.x (.sy 99 1966110), .b false] (heapOf bs) = true := by kernel_rfl
theorem evRunLong61 : k5.lawOk (fsN Tx_1 99) 0 [.x (.sy 99 1966110), .b true] (heapOf bs) = true := by kernel_rfl
theorem evRunLong62 : k5.lawOk (fsN Tx_1 99) 0 [.x (.sy 99 2031647), .b false] (heapOf bs) = true := by kernel_rfl
end Go.Ab.Tryz
