/- Made by program: the tables with rows are sound. -/
import Derived.Test.YtocibeohfbdndaaGreatDoorFfCxq
import Derived.Test.YtocibeohfbdndaaGreatDoorFfCxt0
import Derived.Test.YtocibeohfbdndaaGreatDoorFfCxt1
namespace Go.Ab.Tryz
open Go Go.Ab Go.Proofs
theorem ux_0 : TabOk Tryz.prog dchk T := allOk.tab T_eq
theorem wx_0 : FSnd Tryz.prog 19 rx_0.args rx_0.H (.v rx_0.v rx_0.H') := HRow.snd (fsN_ok (fun _ hF S n => dok hF mixed S n) ux_0 99) vx_0
theorem ux_1 : TabOk Tryz.prog dchk Tx_1 := ux_0.set (.memH c19 rfl (rowsH_cons wx_0 rowsH_nil))
theorem wx_1 : FSnd Tryz.prog 36 rx_1.args rx_1.H (.v rx_1.v rx_1.H') := HRow.snd (fsN_ok (fun _ hF S n => dok hF mixed S n) ux_1 99) vx_1
theorem ux_2 : TabOk Tryz.prog dchk Tx_2 := ux_1.set (.memH c36 rfl (rowsH_cons wx_1 rowsH_nil))
theorem fsOkx (n : Nat) : FsOk Tryz.prog (fsN Tx_2 n) := fsN_ok (fun _ hF S n => dok hF mixed S n) ux_2 n
end Go.Ab.Tryz
