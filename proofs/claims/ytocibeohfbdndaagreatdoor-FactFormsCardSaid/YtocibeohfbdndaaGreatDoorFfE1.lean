/- FactForms, evaluated (1). -/
import Derived.Test.YtocibeohfbdndaaGreatDoorFfKe
import Derived.Test.YtocibeohfbdndaaGreatDoorFfCxq
namespace Go.Ab.Tryz
open Go Go.Ab Go.Proofs
theorem evFactForms10 : k7.lawOk (fsN Tx_2 99) 0 [.x (.sy 50 655370)] (heapOf bs) = true := by kernel_rfl
theorem evFactForms11 : k7.lawOk (fsN Tx_2 99) 0 [.x (.sy 50 720907)] (heapOf bs) = true := by kernel_rfl
theorem evFactForms12 : k7.lawOk (fsN Tx_2 99) 0 [.x (.sy 50 786444)] (heapOf bs) = true := by kernel_rfl
theorem evFactForms13 : k7.lawOk (fsN Tx_2 99) 0 [.x (.sy 50 851981)] (heapOf bs) = true := by kernel_rfl
theorem evFactForms14 : k7.lawOk (fsN Tx_2 99) 0 [.x (.sy 50 917518)] (heapOf bs) = true := by kernel_rfl
theorem evFactForms15 : k7.lawOk (fsN Tx_2 99) 0 [.x (.sy 50 983055)] (heapOf bs) = true := by kernel_rfl
theorem evFactForms16 : k7.lawOk (fsN Tx_2 99) 0 [.x (.sy 50 1048592)] (heapOf bs) = true := by kernel_rfl
theorem evFactForms17 : k7.lawOk (fsN Tx_2 99) 0 [.x (.sy 50 1114129)] (heapOf bs) = true := by kernel_rfl
theorem evFactForms18 : k7.lawOk (fsN Tx_2 99) 0 [.x (.sy 50 1179666)] (heapOf bs) = true := by kernel_rfl
theorem evFactForms19 : k7.lawOk (fsN Tx_2 99) 0 [.x (.sy 50 1245203)] (heapOf bs) = true := by kernel_rfl
end Go.Ab.Tryz
