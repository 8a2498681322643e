/- PairEvery, evaluated (4). -/
import Derived.Test.YtocibeohfbdndaaGreatDoorPvKe
import Derived.Test.YtocibeohfbdndaaGreatDoorPvC4q
namespace Go.Ab.Tryz
open Go Go.Ab Go.Proofs
theorem evPairEvery4 : k6.lawOk (fsN T4_5 99) 0 [.x (.sy 10 262148)] (heapOf bs) = true := by kernel_rfl
end Go.Ab.Tryz
