/- PairEvery, evaluated (6). -/
import Derived.Test.YtocibeohfbdndaaGreatDoorPvKe
namespace Go.Ab.Tryz
open Go Go.Ab Go.Proofs
theorem evPairEvery6 : k6.lawOk (fsN T 99) 0 [.x (.sy 10 393222)] (heapOf bs) = true := by kernel_rfl
end Go.Ab.Tryz
