/- PairEnds, evaluated (0). -/
import Derived.Test.YtfhaailmhaamfaaGreatDoorQeKe
namespace Go.Ab.Tryz
open Go Go.Ab Go.Proofs
theorem evPairEnds0 : k11.lawOk (fsN T 99) 200 [.x (.rg 3 0 18446744073709551615)] (heapOf bs) = true := by kernel_rfl
end Go.Ab.Tryz
