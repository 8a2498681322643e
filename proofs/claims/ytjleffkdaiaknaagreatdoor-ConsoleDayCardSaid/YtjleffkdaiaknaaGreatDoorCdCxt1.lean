/- Made by program: rows, evaluated. -/
import Derived.Test.YtjleffkdaiaknaaGreatDoorCdCxq
import Derived.KernelRfl
namespace Go.Ab.Tryz
open Go Go.Ab Go.Proofs
theorem vx_3 : isRow rx_3.v rx_3.H' (fsN Tx_3 99 7 rx_3.args rx_3.H) = true := by kernel_rfl
end Go.Ab.Tryz
