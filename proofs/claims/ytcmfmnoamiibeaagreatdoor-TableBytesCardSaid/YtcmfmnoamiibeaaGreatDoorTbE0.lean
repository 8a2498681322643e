/- TableBytes, evaluated (0). -/
import Derived.Test.YtcmfmnoamiibeaaGreatDoorTbKe
namespace Go.Ab.Tryz
open Go Go.Ab Go.Proofs
theorem evTableBytes0 : k3.lawOk (fsN T 99) 15 [.x (.rg 3 0 18446744073709551615), .i 4 0] (heapOf bs) = true := by kernel_rfl
theorem evTableBytes1 : k3.lawOk (fsN T 99) 15 [.x (.rg 3 0 18446744073709551615), .i 4 1] (heapOf bs) = true := by kernel_rfl
end Go.Ab.Tryz
