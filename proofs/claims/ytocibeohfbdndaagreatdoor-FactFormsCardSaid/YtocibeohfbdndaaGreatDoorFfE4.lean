/- FactForms, evaluated (4). -/
import Derived.Test.YtocibeohfbdndaaGreatDoorFfKe
import Derived.Test.YtocibeohfbdndaaGreatDoorFfCxq
namespace Go.Ab.Tryz
open Go Go.Ab Go.Proofs
theorem evFactForms40 : k7.lawOk (fsN Tx_2 99) 0 [.x (.sy 50 2621480)] (heapOf bs) = true := by kernel_rfl
theorem evFactForms41 : k7.lawOk (fsN Tx_2 99) 0 [.x (.sy 50 2687017)] (heapOf bs) = true := by kernel_rfl
theorem evFactForms42 : k7.lawOk (fsN Tx_2 99) 0 [.x (.sy 50 2752554)] (heapOf bs) = true := by kernel_rfl
theorem evFactForms43 : k7.lawOk (fsN Tx_2 99) 0 [.x (.sy 50 2818091)] (heapOf bs) = true := by kernel_rfl
theorem evFactForms44 : k7.lawOk (fsN Tx_2 99) 0 [.x (.sy 50 2883628)] (heapOf bs) = true := by kernel_rfl
theorem evFactForms45 : k7.lawOk (fsN Tx_2 99) 0 [.x (.sy 50 2949165)] (heapOf bs) = true := by kernel_rfl
theorem evFactForms46 : k7.lawOk (fsN Tx_2 99) 0 [.x (.sy 50 3014702)] (heapOf bs) = true := by kernel_rfl
theorem evFactForms47 : k7.lawOk (fsN Tx_2 99) 0 [.x (.sy 50 3080239)] (heapOf bs) = true := by kernel_rfl
theorem evFactForms48 : k7.lawOk (fsN Tx_2 99) 0 [.x (.sy 50 3145776)] (heapOf bs) = true := by kernel_rfl
theorem evFactForms49 : k7.lawOk (fsN Tx_2 99) 0 [.x (.sy 50 3211313)] (heapOf bs) = true := by kernel_rfl
end Go.Ab.Tryz
