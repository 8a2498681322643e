/- CoverForms, evaluated (0). -/
import Derived.Test.YtocibeohfbdndaaGreatDoorCvKe
namespace Go.Ab.Tryz
open Go Go.Ab Go.Proofs
theorem evCoverForms0 : k8.lawOk (fsN T 99) 0 [.x (.sy 3 0)] (heapOf bs) = true := by kernel_rfl
end Go.Ab.Tryz
