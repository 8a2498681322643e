/- Made by program: rows, evaluated. -/
import Derived.Test.YtjleffkdaiaknaaGreatDoorCdCxq
import Derived.KernelRfl
namespace Go.Ab.Tryz
open Go Go.Ab Go.Proofs
theorem vx_9 : isRow rx_9.v rx_9.H' (fsN Tx_9 99 7 rx_9.args rx_9.H) = true := by kernel_rfl
end Go.Ab.Tryz
