/- Made by program: the tables with rows are sound. -/
import Derived.Test.YtjleffkdaiaknaaGreatDoorCdCxq
import Derived.Test.YtjleffkdaiaknaaGreatDoorAbMv
import Derived.Test.YtjleffkdaiaknaaGreatDoorCdCzq
import Derived.Test.YtjleffkdaiaknaaGreatDoorCdCxt0
import Derived.Test.YtjleffkdaiaknaaGreatDoorCdCxt1
import Derived.Test.YtjleffkdaiaknaaGreatDoorCdCxt2
import Derived.Test.YtjleffkdaiaknaaGreatDoorCdCxt3
import Derived.Test.YtjleffkdaiaknaaGreatDoorCdCzt0
import Derived.Test.YtjleffkdaiaknaaGreatDoorCdCzt1
import Derived.Test.YtjleffkdaiaknaaGreatDoorCdCzt2
import Derived.Test.YtjleffkdaiaknaaGreatDoorCdCzt3
namespace Go.Ab.Tryz
open Go Go.Ab Go.Proofs
set_option maxRecDepth 100000
theorem ux_0 : TabOk Tryz.prog dchk T := tabOk
theorem wx_0 : FSnd Tryz.prog 7 rx_0.args rx_0.H (.v rx_0.v rx_0.H') := HRow.snd (fsN_ok (fun _ hF S n => dok hF mixed S n) ux_0 99) vx_0
theorem ux_1 : TabOk Tryz.prog dchk Tx_1 := ux_0.set (.memH c7 rfl (rowsH_cons wx_0 rowsH_nil))
theorem wx_1 : FSnd Tryz.prog 7 rx_1.args rx_1.H (.v rx_1.v rx_1.H') := HRow.snd (fsN_ok (fun _ hF S n => dok hF mixed S n) ux_1 99) vx_1
theorem ux_2 : TabOk Tryz.prog dchk Tx_2 := ux_1.set (.memH c7 rfl (rowsH_cons wx_0 (rowsH_cons wx_1 rowsH_nil)))
theorem wx_2 : FSnd Tryz.prog 7 rx_2.args rx_2.H (.v rx_2.v rx_2.H') := HRow.snd (fsN_ok (fun _ hF S n => dok hF mixed S n) ux_2 99) vx_2
theorem ux_3 : TabOk Tryz.prog dchk Tx_3 := ux_2.set (.memH c7 rfl (rowsH_cons wx_0 (rowsH_cons wx_1 (rowsH_cons wx_2 rowsH_nil))))
theorem wx_3 : FSnd Tryz.prog 7 rx_3.args rx_3.H (.v rx_3.v rx_3.H') := HRow.snd (fsN_ok (fun _ hF S n => dok hF mixed S n) ux_3 99) vx_3
theorem ux_4 : TabOk Tryz.prog dchk Tx_4 := ux_3.set (.memH c7 rfl (rowsH_cons wx_0 (rowsH_cons wx_1 (rowsH_cons wx_2 (rowsH_cons wx_3 rowsH_nil)))))
theorem wx_4 : FSnd Tryz.prog 7 rx_4.args rx_4.H (.v rx_4.v rx_4.H') := HRow.snd (fsN_ok (fun _ hF S n => dok hF mixed S n) ux_4 99) vx_4
theorem ux_5 : TabOk Tryz.prog dchk Tx_5 := ux_4.set (.memH c7 rfl (rowsH_cons wx_0 (rowsH_cons wx_1 (rowsH_cons wx_2 (rowsH_cons wx_3 (rowsH_cons wx_4 rowsH_nil))))))
theorem wx_5 : FSnd Tryz.prog 7 rx_5.args rx_5.H (.v rx_5.v rx_5.H') := HRow.snd (fsN_ok (fun _ hF S n => dok hF mixed S n) ux_5 99) vx_5
theorem ux_6 : TabOk Tryz.prog dchk Tx_6 := ux_5.set (.memH c7 rfl (rowsH_cons wx_0 (rowsH_cons wx_1 (rowsH_cons wx_2 (rowsH_cons wx_3 (rowsH_cons wx_4 (rowsH_cons wx_5 rowsH_nil)))))))
theorem wx_6 : FSnd Tryz.prog 7 rx_6.args rx_6.H (.v rx_6.v rx_6.H') := HRow.snd (fsN_ok (fun _ hF S n => dok hF mixed S n) ux_6 99) vx_6
theorem ux_7 : TabOk Tryz.prog dchk Tx_7 := ux_6.set (.memH c7 rfl (rowsH_cons wx_0 (rowsH_cons wx_1 (rowsH_cons wx_2 (rowsH_cons wx_3 (rowsH_cons wx_4 (rowsH_cons wx_5 (rowsH_cons wx_6 rowsH_nil))))))))
theorem wx_7 : FSnd Tryz.prog 7 rx_7.args rx_7.H (.v rx_7.v rx_7.H') := HRow.snd (fsN_ok (fun _ hF S n => dok hF mixed S n) ux_7 99) vx_7
theorem ux_8 : TabOk Tryz.prog dchk Tx_8 := ux_7.set (.memH c7 rfl (rowsH_cons wx_0 (rowsH_cons wx_1 (rowsH_cons wx_2 (rowsH_cons wx_3 (rowsH_cons wx_4 (rowsH_cons wx_5 (rowsH_cons wx_6 (rowsH_cons wx_7 rowsH_nil)))))))))
theorem wx_8 : FSnd Tryz.prog 7 rx_8.args rx_8.H (.v rx_8.v rx_8.H') := HRow.snd (fsN_ok (fun _ hF S n => dok hF mixed S n) ux_8 99) vx_8
theorem ux_9 : TabOk Tryz.prog dchk Tx_9 := ux_8.set (.memH c7 rfl (rowsH_cons wx_0 (rowsH_cons wx_1 (rowsH_cons wx_2 (rowsH_cons wx_3 (rowsH_cons wx_4 (rowsH_cons wx_5 (rowsH_cons wx_6 (rowsH_cons wx_7 (rowsH_cons wx_8 rowsH_nil))))))))))
theorem wx_9 : FSnd Tryz.prog 7 rx_9.args rx_9.H (.v rx_9.v rx_9.H') := HRow.snd (fsN_ok (fun _ hF S n => dok hF mixed S n) ux_9 99) vx_9
theorem ux_10 : TabOk Tryz.prog dchk Tx_10 := ux_9.set (.memH c7 rfl (rowsH_cons wx_0 (rowsH_cons wx_1 (rowsH_cons wx_2 (rowsH_cons wx_3 (rowsH_cons wx_4 (rowsH_cons wx_5 (rowsH_cons wx_6 (rowsH_cons wx_7 (rowsH_cons wx_8 (rowsH_cons wx_9 rowsH_nil)))))))))))
theorem wx_10 : FSnd Tryz.prog 7 rx_10.args rx_10.H (.v rx_10.v rx_10.H') := HRow.snd (fsN_ok (fun _ hF S n => dok hF mixed S n) ux_10 99) vx_10
theorem ux_11 : TabOk Tryz.prog dchk Tx_11 := ux_10.set (.memH c7 rfl (rowsH_cons wx_0 (rowsH_cons wx_1 (rowsH_cons wx_2 (rowsH_cons wx_3 (rowsH_cons wx_4 (rowsH_cons wx_5 (rowsH_cons wx_6 (rowsH_cons wx_7 (rowsH_cons wx_8 (rowsH_cons wx_9 (rowsH_cons wx_10 rowsH_nil))))))))))))
theorem wz_0 : m0.Good Tryz.prog 24 := MRow.snd (fsOk 95) (Nat.le_of_ble_eq_true (by kernel_rfl)) vz_0
theorem wz_1 : m1.Good Tryz.prog 24 := MRow.snd (fsOk 95) (Nat.le_of_ble_eq_true (by kernel_rfl)) vz_1
theorem wz_2 : m2.Good Tryz.prog 24 := MRow.snd (fsOk 95) (Nat.le_of_ble_eq_true (by kernel_rfl)) vz_2
theorem wz_3 : m3.Good Tryz.prog 24 := MRow.snd (fsOk 95) (Nat.le_of_ble_eq_true (by kernel_rfl)) vz_3
theorem uz : TabOk Tryz.prog dchk Tz := ux_11.set (.prim (pMov_snd (rowsM_cons wz_0 (rowsM_cons wz_1 (rowsM_cons wz_2 (rowsM_cons wz_3 rowsM_nil))))))
theorem fsOkz (n : Nat) : FsOk Tryz.prog (fsN Tz n) := fsN_ok (fun _ hF S n => dok hF mixed S n) uz n
end Go.Ab.Tryz
