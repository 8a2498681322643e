/- TableBytes, evaluated (1). -/
import Derived.Test.YtcmfmnoamiibeaaGreatDoorTbKe
namespace Go.Ab.Tryz
open Go Go.Ab Go.Proofs
theorem evTableBytes2 : k3.lawOk (fsN T 99) 15 [.x (.rg 3 0 18446744073709551615), .i 4 2] (heapOf bs) = true := by kernel_rfl
theorem evTableBytes3 : k3.lawOk (fsN T 99) 15 [.x (.rg 3 0 18446744073709551615), .i 4 3] (heapOf bs) = true := by kernel_rfl
end Go.Ab.Tryz
