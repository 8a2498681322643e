/- DriverForms, evaluated (4). -/
import Derived.Test.YtocibeohfbdndaaGreatDoorDfKe
import Derived.Test.YtocibeohfbdndaaGreatDoorDfCxq
namespace Go.Ab.Tryz
open Go Go.Ab Go.Proofs
theorem evDriverForms4 : k4.lawOk (fsN Tx_4 99) 0 [.x (.sy 6 262148)] (heapOf bs) = true := by kernel_rfl
end Go.Ab.Tryz
