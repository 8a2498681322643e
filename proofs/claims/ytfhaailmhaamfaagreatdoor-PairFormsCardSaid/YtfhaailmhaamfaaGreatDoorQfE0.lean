/- PairForms, evaluated (0). -/
import Derived.Test.YtfhaailmhaamfaaGreatDoorQfKe
namespace Go.Ab.Tryz
open Go Go.Ab Go.Proofs
theorem evPairForms0 : k10.lawOk (fsN T 99) 200 [.x (.sy 8 0)] (heapOf bs) = true := by kernel_rfl
theorem evPairForms1 : k10.lawOk (fsN T 99) 200 [.x (.sy 8 65537)] (heapOf bs) = true := by kernel_rfl
end Go.Ab.Tryz
