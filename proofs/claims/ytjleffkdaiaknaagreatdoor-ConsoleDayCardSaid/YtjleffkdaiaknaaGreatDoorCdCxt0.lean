/- Made by program: rows, evaluated. -/
import Derived.Test.YtjleffkdaiaknaaGreatDoorCdCxq
import Derived.KernelRfl
namespace Go.Ab.Tryz
open Go Go.Ab Go.Proofs
theorem vx_0 : isRow rx_0.v rx_0.H' (fsN T 99 7 rx_0.args rx_0.H) = true := by kernel_rfl
theorem vx_1 : isRow rx_1.v rx_1.H' (fsN Tx_1 99 7 rx_1.args rx_1.H) = true := by kernel_rfl
theorem vx_2 : isRow rx_2.v rx_2.H' (fsN Tx_2 99 7 rx_2.args rx_2.H) = true := by kernel_rfl
theorem vx_4 : isRow rx_4.v rx_4.H' (fsN Tx_4 99 7 rx_4.args rx_4.H) = true := by kernel_rfl
theorem vx_5 : isRow rx_5.v rx_5.H' (fsN Tx_5 99 7 rx_5.args rx_5.H) = true := by kernel_rfl
theorem vx_6 : isRow rx_6.v rx_6.H' (fsN Tx_6 99 7 rx_6.args rx_6.H) = true := by kernel_rfl
theorem vx_7 : isRow rx_7.v rx_7.H' (fsN Tx_7 99 7 rx_7.args rx_7.H) = true := by kernel_rfl
theorem vx_8 : isRow rx_8.v rx_8.H' (fsN Tx_8 99 7 rx_8.args rx_8.H) = true := by kernel_rfl
end Go.Ab.Tryz
