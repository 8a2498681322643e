/- Made by program: a row, evaluated. -/
import Derived.Test.YtocibeohfbdndaaGreatDoorDfCxq
import Derived.KernelRfl
namespace Go.Ab.Tryz
open Go Go.Ab Go.Proofs
theorem vx_0 : isRow rx_0.v rx_0.H' (fsN T 99 72 rx_0.args rx_0.H) = true := by kernel_rfl
end Go.Ab.Tryz
