/- Made by program: a row, evaluated. -/
import Derived.Test.YtocibeohfbdndaaGreatDoorPvC4q
import Derived.KernelRfl
namespace Go.Ab.Tryz
open Go Go.Ab Go.Proofs
theorem v4_1 : isRow r4_1.v r4_1.H' (fsN T4_1 99 32 r4_1.args r4_1.H) = true := by kernel_rfl
end Go.Ab.Tryz
