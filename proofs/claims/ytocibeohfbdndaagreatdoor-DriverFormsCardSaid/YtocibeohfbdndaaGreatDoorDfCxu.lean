/- Made by program: the tables with rows are sound. -/
import Derived.Test.YtocibeohfbdndaaGreatDoorDfCxq
import Derived.Test.YtocibeohfbdndaaGreatDoorDfCxt0
import Derived.Test.YtocibeohfbdndaaGreatDoorDfCxt1
import Derived.Test.YtocibeohfbdndaaGreatDoorDfCxt2
import Derived.Test.YtocibeohfbdndaaGreatDoorDfCxt3
namespace Go.Ab.Tryz
open Go Go.Ab Go.Proofs
theorem ux_0 : TabOk Tryz.prog dchk T := allOk.tab T_eq
theorem wx_0 : FSnd Tryz.prog 72 rx_0.args rx_0.H (.v rx_0.v rx_0.H') := HRow.snd (fsN_ok (fun _ hF S n => dok hF mixed S n) ux_0 99) vx_0
theorem ux_1 : TabOk Tryz.prog dchk Tx_1 := ux_0.set (.memH c72 e72 (rowsH_cons wx_0 rowsH_nil))
theorem wx_1 : FSnd Tryz.prog 10 rx_1.args rx_1.H (.v rx_1.v rx_1.H') := HRow.snd (fsN_ok (fun _ hF S n => dok hF mixed S n) ux_1 99) vx_1
theorem ux_2 : TabOk Tryz.prog dchk Tx_2 := ux_1.set (.memH c10 e10 (rowsH_cons wx_1 rowsH_nil))
theorem wx_2 : FSnd Tryz.prog 61 rx_2.args rx_2.H (.v rx_2.v rx_2.H') := HRow.snd (fsN_ok (fun _ hF S n => dok hF mixed S n) ux_2 99) vx_2
theorem ux_3 : TabOk Tryz.prog dchk Tx_3 := ux_2.set (.memH c61 e61 (rowsH_cons wx_2 rowsH_nil))
theorem wx_3 : FSnd Tryz.prog 19 rx_3.args rx_3.H (.v rx_3.v rx_3.H') := HRow.snd (fsN_ok (fun _ hF S n => dok hF mixed S n) ux_3 99) vx_3
theorem ux_4 : TabOk Tryz.prog dchk Tx_4 := ux_3.set (.memH c19 rfl (rowsH_cons wx_3 rowsH_nil))
theorem fsOkx (n : Nat) : FsOk Tryz.prog (fsN Tx_4 n) := fsN_ok (fun _ hF S n => dok hF mixed S n) ux_4 n
end Go.Ab.Tryz
