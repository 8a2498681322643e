/- PairEvery, evaluated (8). -/
import Derived.Test.YtocibeohfbdndaaGreatDoorPvKe
namespace Go.Ab.Tryz
open Go Go.Ab Go.Proofs
theorem evPairEvery8 : k6.lawOk (fsN T 99) 0 [.x (.sy 10 524296)] (heapOf bs) = true := by kernel_rfl
end Go.Ab.Tryz
