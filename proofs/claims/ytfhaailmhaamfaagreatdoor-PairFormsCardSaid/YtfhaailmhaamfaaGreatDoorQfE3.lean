/- PairForms, evaluated (3). -/
import Derived.Test.YtfhaailmhaamfaaGreatDoorQfKe
namespace Go.Ab.Tryz
open Go Go.Ab Go.Proofs
theorem evPairForms6 : k10.lawOk (fsN T 99) 200 [.x (.sy 8 393222)] (heapOf bs) = true := by kernel_rfl
theorem evPairForms7 : k10.lawOk (fsN T 99) 200 [.x (.sy 8 458759)] (heapOf bs) = true := by kernel_rfl
end Go.Ab.Tryz
