/- DriverForms, evaluated (3). -/
import Derived.Test.YtocibeohfbdndaaGreatDoorDfKe
import Derived.Test.YtocibeohfbdndaaGreatDoorDfCxq
namespace Go.Ab.Tryz
open Go Go.Ab Go.Proofs
theorem evDriverForms3 : k4.lawOk (fsN Tx_4 99) 0 [.x (.sy 6 196611)] (heapOf bs) = true := by kernel_rfl
end Go.Ab.Tryz
