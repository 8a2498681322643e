/- Made by program: the tables with rows are sound. -/
import Derived.Test.YtocibeohfbdndaaGreatDoorPvC4q
import Derived.Test.YtocibeohfbdndaaGreatDoorPvC4t0
import Derived.Test.YtocibeohfbdndaaGreatDoorPvC4t1
import Derived.Test.YtocibeohfbdndaaGreatDoorPvC4t2
import Derived.Test.YtocibeohfbdndaaGreatDoorPvC4t3
import Derived.Test.YtocibeohfbdndaaGreatDoorPvC4t4
namespace Go.Ab.Tryz
open Go Go.Ab Go.Proofs
theorem u4_0 : TabOk Tryz.prog dchk T := allOk.tab T_eq
theorem w4_0 : FSnd Tryz.prog 30 r4_0.args r4_0.H (.v r4_0.v r4_0.H') := HRow.snd (fsN_ok (fun _ hF S n => dok hF mixed S n) u4_0 99) v4_0
theorem u4_1 : TabOk Tryz.prog dchk T4_1 := u4_0.set (.memH c30 rfl (rowsH_cons w4_0 rowsH_nil))
theorem w4_1 : FSnd Tryz.prog 32 r4_1.args r4_1.H (.v r4_1.v r4_1.H') := HRow.snd (fsN_ok (fun _ hF S n => dok hF mixed S n) u4_1 99) v4_1
theorem u4_2 : TabOk Tryz.prog dchk T4_2 := u4_1.set (.memH c32 rfl (rowsH_cons w4_1 rowsH_nil))
theorem w4_2 : FSnd Tryz.prog 32 r4_2.args r4_2.H (.v r4_2.v r4_2.H') := HRow.snd (fsN_ok (fun _ hF S n => dok hF mixed S n) u4_2 99) v4_2
theorem u4_3 : TabOk Tryz.prog dchk T4_3 := u4_2.set (.memH c32 rfl (rowsH_cons w4_1 (rowsH_cons w4_2 rowsH_nil)))
theorem w4_3 : FSnd Tryz.prog 32 r4_3.args r4_3.H (.v r4_3.v r4_3.H') := HRow.snd (fsN_ok (fun _ hF S n => dok hF mixed S n) u4_3 99) v4_3
theorem u4_4 : TabOk Tryz.prog dchk T4_4 := u4_3.set (.memH c32 rfl (rowsH_cons w4_1 (rowsH_cons w4_2 (rowsH_cons w4_3 rowsH_nil))))
theorem w4_4 : FSnd Tryz.prog 32 r4_4.args r4_4.H (.v r4_4.v r4_4.H') := HRow.snd (fsN_ok (fun _ hF S n => dok hF mixed S n) u4_4 99) v4_4
theorem u4_5 : TabOk Tryz.prog dchk T4_5 := u4_4.set (.memH c32 rfl (rowsH_cons w4_1 (rowsH_cons w4_2 (rowsH_cons w4_3 (rowsH_cons w4_4 rowsH_nil)))))
theorem fsOk4 (n : Nat) : FsOk Tryz.prog (fsN T4_5 n) := fsN_ok (fun _ hF S n => dok hF mixed S n) u4_5 n
end Go.Ab.Tryz
