/- StatesErrors, evaluated. -/
import Derived.Test.YtnmdlonlohbmcaaGreatDoorKe
namespace Go.Ab.Tryz
open Go Go.Ab Go.Proofs
theorem ev3 : okRes (heapOf bs).nxt (fsN T 100 3 [.x (.rg 3 0 18446744073709551615)] (heapOf bs)) = true := by kernel_rfl
end Go.Ab.Tryz
