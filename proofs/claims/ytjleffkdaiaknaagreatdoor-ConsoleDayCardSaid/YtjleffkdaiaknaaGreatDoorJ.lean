/- Facts of the program, by the kernel. -/
import Derived.Test.YtjleffkdaiaknaaGreatDoorRows
import Derived.JoinedOf
import Derived.SevenTiedAt
namespace Go.Proofs.YtjleffkdaiaknaaGreatDoor
open Go
theorem p2 : laidOutB Tryz.prog = true := by kernel_rfl
theorem p3 : mapsRowed Tryz.prog = true := by kernel_rfl
theorem p23b : Tryz.prog.stopsHeard = true := by kernel_rfl
theorem p24 : Tryz.prog.mayEnter = true := by kernel_rfl
theorem q2 : Tryz.prog.mainIs = some (true, "908c56f920478d7a9d685feb152f7ded868f528006a7e75ba93741bda840bd24".toList) := by kernel_rfl
theorem q3 : true = Tryz.prog.looks [] := by kernel_rfl
end Go.Proofs.YtjleffkdaiaknaaGreatDoor
