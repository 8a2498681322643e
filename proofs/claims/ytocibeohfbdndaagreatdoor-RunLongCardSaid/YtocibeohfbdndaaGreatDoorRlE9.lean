/- RunLong, evaluated (9). -/
import Derived.Test.YtocibeohfbdndaaGreatDoorRlKe
import Derived.Test.YtocibeohfbdndaaGreatDoorRlCxq
namespace Go.Ab.Tryz
open Go Go.Ab Go.Proofs
theorem evRunLong81 : k5.lawOk (fsN Tx_1 99) 0 [.x (.sy 99 2621480), .b true] (heapOf bs) = true := by kernel_rfl
theorem evRunLong82 : k5.lawOk (fsN Tx_1 99) 0 [.x (.sy 99 2687017), .b false] (heapOf bs) = true := by kernel_rfl
theorem evRunLong83 : k5.lawOk (fsN Tx_1 99) 0 [.x (.sy 99 2687017), .b true] (heapOf bs) = true := by kernel_rfl
theorem evRunLong84 : k5.lawOk (fsN Tx_1 99) 0 [.x (.sy 99 2752554), .b false] (heapOf bs) = true := by kernel_rfl
theorem evRunLong85 : k5.lawOk (fsN Tx_1 99) 0 [.x (.sy 99 2752554), .b true] (heapOf bs) = true := by kernel_rfl
theorem evRunLong86 : k5.lawOk (fsN Tx_1 99) 0 [.x (.sy 99 2818091), .b false] (heapOf bs) = true := by kernel_rfl
theorem evRunLong87 : k5.lawOk (fsN Tx_1 99) 0 [.x (.sy 99 2818091), .b true] (heapOf bs) = true := by kernel_rfl
theorem evRunLong88 : k5.lawOk (fsN Tx_1 99) 0 [.x (.sy 99 2883628), .b false] (heapOf bs) = true := by kernel_rfl
theorem evRunLong89 : k5.lawOk (fsN Tx_1 99) 0 [.x (.sy 99 2883628), .b true] (heapOf bs) = true := by kernel_rfl
end Go.Ab.Tryz
