/- FactForms, evaluated (0). -/
import Derived.Test.YtocibeohfbdndaaGreatDoorFfKe
import Derived.Test.YtocibeohfbdndaaGreatDoorFfCxq
namespace Go.Ab.Tryz
open Go Go.Ab Go.Proofs
theorem evFactForms0 : k7.lawOk (fsN Tx_2 99) 0 [.x (.sy 50 0)] (heapOf bs) = true := by kernel_rfl
theorem evFactForms1 : k7.lawOk (fsN Tx_2 99) 0 [.x (.sy 50 65537)] (heapOf bs) = true := by kernel_rfl
theorem evFactForms2 : k7.lawOk (fsN Tx_2 99) 0 [.x (.sy 50 131074)] (heapOf bs) = true := by kernel_rfl
theorem evFactForms3 : k7.lawOk (fsN Tx_2 99) 0 [.x (.sy 50 196611)] (heapOf bs) = true := by kernel_rfl
theorem evFactForms4 : k7.lawOk (fsN Tx_2 99) 0 [.x (.sy 50 262148)] (heapOf bs) = true := by kernel_rfl
theorem evFactForms5 : k7.lawOk (fsN Tx_2 99) 0 [.x (.sy 50 327685)] (heapOf bs) = true := by kernel_rfl
theorem evFactForms6 : k7.lawOk (fsN Tx_2 99) 0 [.x (.sy 50 393222)] (heapOf bs) = true := by kernel_rfl
theorem evFactForms7 : k7.lawOk (fsN Tx_2 99) 0 [.x (.sy 50 458759)] (heapOf bs) = true := by kernel_rfl
theorem evFactForms8 : k7.lawOk (fsN Tx_2 99) 0 [.x (.sy 50 524296)] (heapOf bs) = true := by kernel_rfl
theorem evFactForms9 : k7.lawOk (fsN Tx_2 99) 0 [.x (.sy 50 589833)] (heapOf bs) = true := by kernel_rfl
end Go.Ab.Tryz
