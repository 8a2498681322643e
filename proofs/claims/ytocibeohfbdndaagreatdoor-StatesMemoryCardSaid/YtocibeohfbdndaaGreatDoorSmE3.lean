/- StatesMemory, evaluated (3). -/
import Derived.Test.YtocibeohfbdndaaGreatDoorSmKe
namespace Go.Ab.Tryz
open Go Go.Ab Go.Proofs
theorem evStatesMemory3 : k3.lawOk (fsN T 99) 60 [.x (.sy 17 196611), .x (.rg 3 0 18446744073709551615)] (heapOf bs) = true := by kernel_rfl
end Go.Ab.Tryz
