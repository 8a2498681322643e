/- Facts of the program, by the kernel. -/
import Derived.Test.YtcmfmnoamiibeaaGreatDoorRows
import Derived.JoinedOf
import Derived.SevenTiedAt
namespace Go.Proofs.YtcmfmnoamiibeaaGreatDoor
open Go
theorem p2 : laidOutB Tryz.prog = true := by kernel_rfl
theorem p3 : mapsRowed Tryz.prog = true := by kernel_rfl
theorem p23b : Tryz.prog.stopsHeard = true := by kernel_rfl
theorem p24 : Tryz.prog.mayEnter = true := by kernel_rfl
theorem q2 : Tryz.prog.mainIs = some (true, "c1def23b0f26cc96193b4ec93cf4a8ebab1eb15391234d3fdd0a9735a667ee51".toList) := by kernel_rfl
theorem q3 : true = Tryz.prog.looks [] := by kernel_rfl
end Go.Proofs.YtcmfmnoamiibeaaGreatDoor
