/- FactForms, evaluated (3). -/
import Derived.Test.YtocibeohfbdndaaGreatDoorFfKe
import Derived.Test.YtocibeohfbdndaaGreatDoorFfCxq
namespace Go.Ab.Tryz
open Go Go.Ab Go.Proofs
theorem evFactForms30 : k7.lawOk (fsN Tx_2 99) 0 [.x (.sy 50 1966110)] (heapOf bs) = true := by kernel_rfl
theorem evFactForms31 : k7.lawOk (fsN Tx_2 99) 0 [.x (.sy 50 2031647)] (heapOf bs) = true := by kernel_rfl
theorem evFactForms32 : k7.lawOk (fsN Tx_2 99) 0 [.x (.sy 50 2097184)] (heapOf bs) = true := by kernel_rfl
theorem evFactForms33 : k7.lawOk (fsN Tx_2 99) 0 [.x (.sy 50 2162721)] (heapOf bs) = true := by kernel_rfl
theorem evFactForms34 : k7.lawOk (fsN Tx_2 99) 0 [.x (.sy 50 2228258)] (heapOf bs) = true := by kernel_rfl
theorem evFactForms35 : k7.lawOk (fsN Tx_2 99) 0 [.x (.sy 50 2293795)] (heapOf bs) = true := by kernel_rfl
theorem evFactForms36 : k7.lawOk (fsN Tx_2 99) 0 [.x (.sy 50 2359332)] (heapOf bs) = true := by kernel_rfl
theorem evFactForms37 : k7.lawOk (fsN Tx_2 99) 0 [.x (.sy 50 2424869)] (heapOf bs) = true := by kernel_rfl
theorem evFactForms38 : k7.lawOk (fsN Tx_2 99) 0 [.x (.sy 50 2490406)] (heapOf bs) = true := by kernel_rfl
theorem evFactForms39 : k7.lawOk (fsN Tx_2 99) 0 [.x (.sy 50 2555943)] (heapOf bs) = true := by kernel_rfl
end Go.Ab.Tryz
