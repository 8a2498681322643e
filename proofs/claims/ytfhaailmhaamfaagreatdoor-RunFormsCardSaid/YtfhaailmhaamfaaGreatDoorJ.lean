/- Facts of the program, by the kernel. -/
import Derived.Test.YtfhaailmhaamfaaGreatDoorRows
import Derived.JoinedOf
import Derived.SevenTiedAt
namespace Go.Proofs.YtfhaailmhaamfaaGreatDoor
open Go
theorem p2 : laidOutB Tryz.prog = true := by kernel_rfl
theorem p3 : mapsRowed Tryz.prog = true := by kernel_rfl
theorem p23b : Tryz.prog.stopsHeard = true := by kernel_rfl
theorem p24 : Tryz.prog.mayEnter = true := by kernel_rfl
theorem q2 : Tryz.prog.mainIs = some (true, "daa29aa2975e06d1d43ba3434a7253fe61cb493408dbc30c7b3f3cd76cc531d5".toList) := by kernel_rfl
theorem q3 : false = Tryz.prog.looks [] := by kernel_rfl
end Go.Proofs.YtfhaailmhaamfaaGreatDoor
