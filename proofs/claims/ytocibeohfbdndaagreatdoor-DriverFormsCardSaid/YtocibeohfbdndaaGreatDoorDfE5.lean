/- DriverForms, evaluated (5). -/
import Derived.Test.YtocibeohfbdndaaGreatDoorDfKe
import Derived.Test.YtocibeohfbdndaaGreatDoorDfCxq
namespace Go.Ab.Tryz
open Go Go.Ab Go.Proofs
theorem evDriverForms5 : k4.lawOk (fsN Tx_4 99) 0 [.x (.sy 6 327685)] (heapOf bs) = true := by kernel_rfl
end Go.Ab.Tryz
