/- Made by program: a row, evaluated. -/
import Derived.Test.YtocibeohfbdndaaGreatDoorDfCxq
import Derived.KernelRfl
namespace Go.Ab.Tryz
open Go Go.Ab Go.Proofs
theorem vx_1 : isRow rx_1.v rx_1.H' (fsN Tx_1 99 10 rx_1.args rx_1.H) = true := by kernel_rfl
end Go.Ab.Tryz
