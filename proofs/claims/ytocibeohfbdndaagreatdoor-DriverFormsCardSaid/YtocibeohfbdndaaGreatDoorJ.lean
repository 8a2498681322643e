/- Facts of the program, by the kernel. -/
import Derived.Test.YtocibeohfbdndaaGreatDoorRows
import Derived.JoinedOf
import Derived.SevenTiedAt
namespace Go.Proofs.YtocibeohfbdndaaGreatDoor
open Go
theorem p2 : laidOutB Tryz.prog = true := by kernel_rfl
theorem p3 : mapsRowed Tryz.prog = true := by kernel_rfl
theorem p23b : Tryz.prog.stopsHeard = true := by kernel_rfl
theorem p24 : Tryz.prog.mayEnter = true := by kernel_rfl
theorem q2 : Tryz.prog.mainIs = some (true, "750251462bffd9c24a6ed2cd6e881292cc1fd3507556a3893ab952016f8bb3f5".toList) := by kernel_rfl
theorem q3 : true = Tryz.prog.looks [] := by kernel_rfl
end Go.Proofs.YtocibeohfbdndaaGreatDoor
