/- FactForms, evaluated (2). -/
import Derived.Test.YtocibeohfbdndaaGreatDoorFfKe
import Derived.Test.YtocibeohfbdndaaGreatDoorFfCxq
namespace Go.Ab.Tryz
open Go Go.Ab Go.Proofs
theorem evFactForms20 : k7.lawOk (fsN Tx_2 99) 0 [.x (.sy 50 1310740)] (heapOf bs) = true := by kernel_rfl
theorem evFactForms21 : k7.lawOk (fsN Tx_2 99) 0 [.x (.sy 50 1376277)] (heapOf bs) = true := by kernel_rfl
theorem evFactForms22 : k7.lawOk (fsN Tx_2 99) 0 [.x (.sy 50 1441814)] (heapOf bs) = true := by kernel_rfl
theorem evFactForms23 : k7.lawOk (fsN Tx_2 99) 0 [.x (.sy 50 1507351)] (heapOf bs) = true := by kernel_rfl
theorem evFactForms24 : k7.lawOk (fsN Tx_2 99) 0 [.x (.sy 50 1572888)] (heapOf bs) = true := by kernel_rfl
theorem evFactForms25 : k7.lawOk (fsN Tx_2 99) 0 [.x (.sy 50 1638425)] (heapOf bs) = true := by kernel_rfl
theorem evFactForms26 : k7.lawOk (fsN Tx_2 99) 0 [.x (.sy 50 1703962)] (heapOf bs) = true := by kernel_rfl
theorem evFactForms27 : k7.lawOk (fsN Tx_2 99) 0 [.x (.sy 50 1769499)] (heapOf bs) = true := by kernel_rfl
theorem evFactForms28 : k7.lawOk (fsN Tx_2 99) 0 [.x (.sy 50 1835036)] (heapOf bs) = true := by kernel_rfl
theorem evFactForms29 : k7.lawOk (fsN Tx_2 99) 0 [.x (.sy 50 1900573)] (heapOf bs) = true := by kernel_rfl
end Go.Ab.Tryz
