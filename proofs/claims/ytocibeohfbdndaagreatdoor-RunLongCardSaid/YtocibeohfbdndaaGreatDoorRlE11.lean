/- RunLong, evaluated (11). -/
import Derived.Test.YtocibeohfbdndaaGreatDoorRlKe
import Derived.Test.YtocibeohfbdndaaGreatDoorRlCxq
namespace Go.Ab.Tryz
open Go Go.Ab Go.Proofs
theorem evRunLong99 : k5.lawOk (fsN Tx_1 99) 0 [.x (.sy 99 3211313), .b true] (heapOf bs) = true := by kernel_rfl
theorem evRunLong100 : k5.lawOk (fsN Tx_1 99) 0 [.x (.sy 99 3276850), .b false] (heapOf bs) = true := by kernel_rfl
theorem evRunLong101 : k5.lawOk (fsN Tx_1 99) 0 [.x (.sy 99 3276850), .b true] (heapOf bs) = true := by kernel_rfl
theorem evRunLong102 : k5.lawOk (fsN Tx_1 99) 0 [.x (.sy 99 3342387), .b false] (heapOf bs) = true := by kernel_rfl
theorem evRunLong103 : k5.lawOk (fsN Tx_1 99) 0 [.x (.sy 99 3342387), .b true] (heapOf bs) = true := by kernel_rfl
theorem evRunLong104 : k5.lawOk (fsN Tx_1 99) 0 [.x (.sy 99 3407924), .b false] (heapOf bs) = true := by kernel_rfl
theorem evRunLong105 : k5.lawOk (fsN Tx_1 99) 0 [.x (.sy 99 3407924), .b true] (heapOf bs) = true := by kernel_rfl
theorem evRunLong106 : k5.lawOk (fsN Tx_1 99) 0 [.x (.sy 99 3473461), .b false] (heapOf bs) = true := by kernel_rfl
theorem evRunLong107 : k5.lawOk (fsN Tx_1 99) 0 [.x (.sy 99 3473461), .b true] (heapOf bs) = true := by kernel_rfl
end Go.Ab.Tryz
