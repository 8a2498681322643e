/- PairForms, evaluated (1). -/
import Derived.Test.YtfhaailmhaamfaaGreatDoorQfKe
namespace Go.Ab.Tryz
open Go Go.Ab Go.Proofs
theorem evPairForms2 : k10.lawOk (fsN T 99) 200 [.x (.sy 8 131074)] (heapOf bs) = true := by kernel_rfl
theorem evPairForms3 : k10.lawOk (fsN T 99) 200 [.x (.sy 8 196611)] (heapOf bs) = true := by kernel_rfl
end Go.Ab.Tryz
