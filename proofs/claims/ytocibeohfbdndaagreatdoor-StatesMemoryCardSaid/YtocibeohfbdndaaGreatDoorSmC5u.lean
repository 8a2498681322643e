/- Made by program: the tables with rows are sound. -/
import Derived.Test.YtocibeohfbdndaaGreatDoorSmC5q
import Derived.Test.YtocibeohfbdndaaGreatDoorSmC5t0
namespace Go.Ab.Tryz
open Go Go.Ab Go.Proofs
theorem u5_0 : TabOk Tryz.prog dchk T := allOk.tab T_eq
theorem w5_0 : FSnd Tryz.prog 10 r5_0.args r5_0.H (.v r5_0.v r5_0.H') := HRow.snd (fsN_ok (fun _ hF S n => dok hF mixed S n) u5_0 99) v5_0
theorem u5_1 : TabOk Tryz.prog dchk T5_1 := u5_0.set (.memH c10 e10 (rowsH_cons w5_0 rowsH_nil))
theorem fsOk5 (n : Nat) : FsOk Tryz.prog (fsN T5_1 n) := fsN_ok (fun _ hF S n => dok hF mixed S n) u5_1 n
end Go.Ab.Tryz
