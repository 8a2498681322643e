/- Made by program: a row, evaluated. -/
import Derived.Test.YtocibeohfbdndaaGreatDoorDfCxq
import Derived.KernelRfl
namespace Go.Ab.Tryz
open Go Go.Ab Go.Proofs
theorem vx_2 : isRow rx_2.v rx_2.H' (fsN Tx_2 99 61 rx_2.args rx_2.H) = true := by kernel_rfl
end Go.Ab.Tryz
