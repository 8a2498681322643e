/- PairEvery, evaluated (5). -/
import Derived.Test.YtocibeohfbdndaaGreatDoorPvKe
namespace Go.Ab.Tryz
open Go Go.Ab Go.Proofs
theorem evPairEvery5 : k6.lawOk (fsN T 99) 0 [.x (.sy 10 327685)] (heapOf bs) = true := by kernel_rfl
end Go.Ab.Tryz
