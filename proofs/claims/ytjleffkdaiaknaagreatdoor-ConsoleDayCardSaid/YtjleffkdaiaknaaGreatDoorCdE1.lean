/- ConsoleDay, evaluated (1). -/
import Derived.Test.YtjleffkdaiaknaaGreatDoorCdKe
import Derived.Test.YtjleffkdaiaknaaGreatDoorCdCzq
namespace Go.Ab.Tryz
open Go Go.Ab Go.Proofs
theorem evConsoleDay1 : k4.lawOk (fsN Tz 99) 40 [.x (.sy 3 65537)] (heapOf bs) = true := by kernel_rfl
end Go.Ab.Tryz
