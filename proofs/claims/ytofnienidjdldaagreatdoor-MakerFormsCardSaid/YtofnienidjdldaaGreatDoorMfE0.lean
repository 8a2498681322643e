/- MakerForms, evaluated (0). -/
import Derived.Test.YtofnienidjdldaaGreatDoorMfKe
namespace Go.Ab.Tryz
open Go Go.Ab Go.Proofs
theorem evMakerForms0 : k4.lawOk (fsN T 99) 0 [.x (.sy 60 0)] (heapOf bs) = true := by kernel_rfl
end Go.Ab.Tryz
