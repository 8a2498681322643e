/- StatesMemory, evaluated (5). -/
import Derived.Test.YtocibeohfbdndaaGreatDoorSmKe
import Derived.Test.YtocibeohfbdndaaGreatDoorSmC5q
namespace Go.Ab.Tryz
open Go Go.Ab Go.Proofs
theorem evStatesMemory5 : k3.lawOk (fsN T5_1 99) 60 [.x (.sy 17 327685), .x (.rg 3 0 18446744073709551615)] (heapOf bs) = true := by kernel_rfl
end Go.Ab.Tryz
