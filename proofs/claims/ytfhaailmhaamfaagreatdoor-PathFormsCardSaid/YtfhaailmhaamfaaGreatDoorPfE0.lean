/- PathForms, evaluated (0). -/
import Derived.Test.YtfhaailmhaamfaaGreatDoorPfKe
namespace Go.Ab.Tryz
open Go Go.Ab Go.Proofs
theorem evPathForms0 : k7.lawOk (fsN T 99) 200 [.x (.rg 3 0 18446744073709551615)] (heapOf bs) = true := by kernel_rfl
end Go.Ab.Tryz
