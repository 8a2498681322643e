/- Made by program: a row, evaluated. -/
import Derived.Test.YtjleffkdaiaknaaGreatDoorCdCzq
import Derived.KernelRfl
namespace Go.Ab.Tryz
open Go Go.Ab Go.Proofs
theorem vz_3 : m3.chk ks3 (fsN T 95 24 m3.args (heapOf m3.bs)) = true := by kernel_rfl
end Go.Ab.Tryz
