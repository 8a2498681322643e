/- Made by program: a row, evaluated. -/
import Derived.Test.YtjleffkdaiaknaaGreatDoorCdCzq
import Derived.KernelRfl
namespace Go.Ab.Tryz
open Go Go.Ab Go.Proofs
theorem vz_0 : m0.chk ks0 (fsN T 95 24 m0.args (heapOf m0.bs)) = true := by kernel_rfl
end Go.Ab.Tryz
