/- Made by program: a row, evaluated. -/
import Derived.Test.YtjleffkdaiaknaaGreatDoorCdCzq
import Derived.KernelRfl
namespace Go.Ab.Tryz
open Go Go.Ab Go.Proofs
theorem vz_1 : m1.chk ks1 (fsN T 95 24 m1.args (heapOf m1.bs)) = true := by kernel_rfl
end Go.Ab.Tryz
