/- Made by program: a row, evaluated. -/
import Derived.Test.YtjleffkdaiaknaaGreatDoorCdCzq
import Derived.KernelRfl
namespace Go.Ab.Tryz
open Go Go.Ab Go.Proofs
theorem vz_2 : m2.chk ks2 (fsN T 95 24 m2.args (heapOf m2.bs)) = true := by kernel_rfl
end Go.Ab.Tryz
