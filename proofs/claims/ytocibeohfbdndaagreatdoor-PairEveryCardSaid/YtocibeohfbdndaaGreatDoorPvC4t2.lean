/- Made by program: a row, evaluated. -/
import Derived.Test.YtocibeohfbdndaaGreatDoorPvC4q
import Derived.KernelRfl
namespace Go.Ab.Tryz
open Go Go.Ab Go.Proofs
theorem v4_2 : isRow r4_2.v r4_2.H' (fsN T4_2 99 32 r4_2.args r4_2.H) = true := by kernel_rfl
end Go.Ab.Tryz
