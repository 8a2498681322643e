/- CoverForms, evaluated (1). -/
import Derived.Test.YtocibeohfbdndaaGreatDoorCvKe
namespace Go.Ab.Tryz
open Go Go.Ab Go.Proofs
theorem evCoverForms1 : k8.lawOk (fsN T 99) 0 [.x (.sy 3 65537)] (heapOf bs) = true := by kernel_rfl
end Go.Ab.Tryz
