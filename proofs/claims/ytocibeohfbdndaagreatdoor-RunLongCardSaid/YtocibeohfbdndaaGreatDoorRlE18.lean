/- RunLong, evaluated (18). -/
import Derived.Test.YtocibeohfbdndaaGreatDoorRlKe
import Derived.Test.YtocibeohfbdndaaGreatDoorRlCxq
namespace Go.Ab.Tryz
open Go Go.Ab Go.Proofs
theorem evRunLong162 : k5.lawOk (fsN Tx_1 99) 0 [.x (.sy 99 5308497), .b false] (heapOf bs) = true := by kernel_rfl
theorem evRunLong163 : k5.lawOk (fsN Tx_1 99) 0 [.x (.sy 99 5308497), .b true] (heapOf bs) = true := by kernel_rfl
theorem evRunLong164 : k5.lawOk (fsN Tx_1 99) 0 [.x (.sy 99 5374034), .b false] (heapOf bs) = true := by kernel_rfl
theorem evRunLong165 : k5.lawOk (fsN Tx_1 99) 0 [.x (.sy 99 5374034), .b true] (heapOf bs) = true := by kernel_rfl
theorem evRunLong166 : k5.lawOk (fsN Tx_1 99) 0 [.x (.sy 99 5439571), .b false] (heapOf bs) = true := by kernel_rfl
theorem evRunLong167 : k5.lawOk (fsN Tx_1 99) 0 [.x (.sy 99 5439571), .b true] (heapOf bs) = true := by kernel_rfl
theorem evRunLong168 : k5.lawOk (fsN Tx_1 99) 0 [.x (.sy 99 5505108), .b false] (heapOf bs) = true := by kernel_rfl
theorem evRunLong169 : k5.lawOk (fsN Tx_1 99) 0 [.x (.sy 99 5505108), .b true] (heapOf bs) = true := by kernel_rfl
theorem evRunLong170 : k5.lawOk (fsN Tx_1 99) 0 [.x (.sy 99 5570645), .b false] (heapOf bs) = true := by kernel_rfl
end Go.Ab.Tryz
