/- MakerForms, evaluated (4). -/
import Derived.Test.YtofnienidjdldaaGreatDoorMfKe
namespace Go.Ab.Tryz
open Go Go.Ab Go.Proofs
theorem evMakerForms4 : k4.lawOk (fsN T 99) 0 [.x (.sy 60 262148)] (heapOf bs) = true := by kernel_rfl
end Go.Ab.Tryz
