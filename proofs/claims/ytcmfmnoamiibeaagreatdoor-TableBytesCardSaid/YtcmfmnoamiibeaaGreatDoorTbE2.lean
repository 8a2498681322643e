/- TableBytes, evaluated (2). -/
import Derived.Test.YtcmfmnoamiibeaaGreatDoorTbKe
namespace Go.Ab.Tryz
open Go Go.Ab Go.Proofs
theorem evTableBytes4 : k3.lawOk (fsN T 99) 15 [.x (.rg 3 0 18446744073709551615), .x (.rg 4 4 255)] (heapOf bs) = true := by kernel_rfl
end Go.Ab.Tryz
