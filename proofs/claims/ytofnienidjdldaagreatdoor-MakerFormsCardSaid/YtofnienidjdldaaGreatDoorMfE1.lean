/- MakerForms, evaluated (1). -/
import Derived.Test.YtofnienidjdldaaGreatDoorMfKe
namespace Go.Ab.Tryz
open Go Go.Ab Go.Proofs
theorem evMakerForms1 : k4.lawOk (fsN T 99) 0 [.x (.sy 60 65537)] (heapOf bs) = true := by kernel_rfl
end Go.Ab.Tryz
