/- Made by program: a row, evaluated. -/
import Derived.Test.YtocibeohfbdndaaGreatDoorPvC4q
import Derived.KernelRfl
namespace Go.Ab.Tryz
open Go Go.Ab Go.Proofs
theorem v4_0 : isRow r4_0.v r4_0.H' (fsN T 99 30 r4_0.args r4_0.H) = true := by kernel_rfl
end Go.Ab.Tryz
