/- Made by program: a row, evaluated. -/
import Derived.Test.YtocibeohfbdndaaGreatDoorPvC4q
import Derived.KernelRfl
namespace Go.Ab.Tryz
open Go Go.Ab Go.Proofs
theorem v4_3 : isRow r4_3.v r4_3.H' (fsN T4_3 99 32 r4_3.args r4_3.H) = true := by kernel_rfl
end Go.Ab.Tryz
