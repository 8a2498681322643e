/- DriverForms, evaluated (1). -/
import Derived.Test.YtocibeohfbdndaaGreatDoorDfKe
import Derived.Test.YtocibeohfbdndaaGreatDoorDfCxq
namespace Go.Ab.Tryz
open Go Go.Ab Go.Proofs
theorem evDriverForms1 : k4.lawOk (fsN Tx_4 99) 0 [.x (.sy 6 65537)] (heapOf bs) = true := by kernel_rfl
end Go.Ab.Tryz
