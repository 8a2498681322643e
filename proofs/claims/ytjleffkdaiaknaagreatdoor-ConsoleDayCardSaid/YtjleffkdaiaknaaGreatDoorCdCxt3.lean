/- Made by program: rows, evaluated. -/
import Derived.Test.YtjleffkdaiaknaaGreatDoorCdCxq
import Derived.KernelRfl
namespace Go.Ab.Tryz
open Go Go.Ab Go.Proofs
theorem vx_10 : isRow rx_10.v rx_10.H' (fsN Tx_10 99 7 rx_10.args rx_10.H) = true := by kernel_rfl
end Go.Ab.Tryz
