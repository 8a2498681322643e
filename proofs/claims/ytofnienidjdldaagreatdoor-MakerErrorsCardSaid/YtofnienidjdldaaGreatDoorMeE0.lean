/- MakerErrors, evaluated (0). -/
import Derived.Test.YtofnienidjdldaaGreatDoorMeKe
namespace Go.Ab.Tryz
open Go Go.Ab Go.Proofs
theorem evMakerErrors0 : k3.lawOk (fsN T 99) 0 [.x (.rg 3 0 18446744073709551615)] (heapOf bs) = true := by kernel_rfl
end Go.Ab.Tryz
