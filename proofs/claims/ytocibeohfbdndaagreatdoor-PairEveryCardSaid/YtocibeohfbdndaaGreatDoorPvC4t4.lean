/- Made by program: a row, evaluated. -/
import Derived.Test.YtocibeohfbdndaaGreatDoorPvC4q
import Derived.KernelRfl
namespace Go.Ab.Tryz
open Go Go.Ab Go.Proofs
theorem v4_4 : isRow r4_4.v r4_4.H' (fsN T4_4 99 32 r4_4.args r4_4.H) = true := by kernel_rfl
end Go.Ab.Tryz
