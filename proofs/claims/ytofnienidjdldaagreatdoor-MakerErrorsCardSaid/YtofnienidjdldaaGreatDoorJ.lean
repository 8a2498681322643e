/- Facts of the program, by the kernel. -/
import Derived.Test.YtofnienidjdldaaGreatDoorRows
import Derived.JoinedOf
import Derived.SevenTiedAt
namespace Go.Proofs.YtofnienidjdldaaGreatDoor
open Go
theorem p2 : laidOutB Tryz.prog = true := by kernel_rfl
theorem p3 : mapsRowed Tryz.prog = true := by kernel_rfl
theorem p23b : Tryz.prog.stopsHeard = true := by kernel_rfl
theorem p24 : Tryz.prog.mayEnter = true := by kernel_rfl
theorem q2 : Tryz.prog.mainIs = some (true, "7e91620096b3cc10e723b6ac8eec13c5bb33d90458e05c670f9fa8093e791736".toList) := by kernel_rfl
theorem q3 : true = Tryz.prog.looks [] := by kernel_rfl
end Go.Proofs.YtofnienidjdldaaGreatDoor
