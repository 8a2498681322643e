/- Made by program: a row, evaluated. -/
import Derived.Test.YtocibeohfbdndaaGreatDoorSmC5q
import Derived.KernelRfl
namespace Go.Ab.Tryz
open Go Go.Ab Go.Proofs
theorem v5_0 : isRow r5_0.v r5_0.H' (fsN T 99 10 r5_0.args r5_0.H) = true := by kernel_rfl
end Go.Ab.Tryz
