/- MakerForms, evaluated (7). -/
import Derived.Test.YtofnienidjdldaaGreatDoorMfKe
namespace Go.Ab.Tryz
open Go Go.Ab Go.Proofs
theorem evMakerForms7 : k4.lawOk (fsN T 99) 0 [.x (.sy 60 458759)] (heapOf bs) = true := by kernel_rfl
end Go.Ab.Tryz
