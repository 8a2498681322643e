/- ConsoleTurns, evaluated (2). -/
import Derived.Test.YtjleffkdaiaknaaGreatDoorCtKe
namespace Go.Ab.Tryz
open Go Go.Ab Go.Proofs
theorem evConsoleTurns2 : k3.lawOk (fsN T 99) 40 [.x (.sy 5 131074)] (heapOf bs) = true := by kernel_rfl
end Go.Ab.Tryz
