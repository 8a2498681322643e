/- ConsoleTurns, evaluated (0). -/
import Derived.Test.YtjleffkdaiaknaaGreatDoorCtKe
namespace Go.Ab.Tryz
open Go Go.Ab Go.Proofs
theorem evConsoleTurns0 : k3.lawOk (fsN T 99) 40 [.x (.sy 5 0)] (heapOf bs) = true := by kernel_rfl
end Go.Ab.Tryz
