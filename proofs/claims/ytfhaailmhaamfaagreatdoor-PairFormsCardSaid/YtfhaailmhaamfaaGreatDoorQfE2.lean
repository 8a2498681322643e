/- PairForms, evaluated (2). -/
import Derived.Test.YtfhaailmhaamfaaGreatDoorQfKe
namespace Go.Ab.Tryz
open Go Go.Ab Go.Proofs
theorem evPairForms4 : k10.lawOk (fsN T 99) 200 [.x (.sy 8 262148)] (heapOf bs) = true := by kernel_rfl
theorem evPairForms5 : k10.lawOk (fsN T 99) 200 [.x (.sy 8 327685)] (heapOf bs) = true := by kernel_rfl
end Go.Ab.Tryz
