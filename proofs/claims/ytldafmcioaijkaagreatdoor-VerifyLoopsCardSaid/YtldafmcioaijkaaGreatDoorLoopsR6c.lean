/- Runs of the law: 6 loops within one another. -/
import Derived.Test.YtldafmcioaijkaaGreatDoorLoopsC6
namespace Go.Proofs.YtldafmcioaijkaaGreatDoor
open Go Go.Ab
theorem loops_6_14 : runsW all6 3 [.nil 3092, .nil 10790] = true := by kernel_rfl
theorem loops_6_15 : runsW all6 3 [.nil 3092, .nil 10792] = true := by kernel_rfl
theorem loops_6_16 : runsW all6 3 [.nil 3092, .nil 10794] = true := by kernel_rfl
theorem loops_6_17 : runsW all6 3 [.nil 3092, .nil 10796] = true := by kernel_rfl
theorem loops_6_18 : runsW all6 3 [.nil 3092, .nil 10798] = true := by kernel_rfl
theorem loops_6_19 : runsW all6 3 [.nil 3092, .nil 10800] = true := by kernel_rfl
theorem loops_6_20 : runsW all6 3 [.nil 3092, .nil 10802] = true := by kernel_rfl
end Go.Proofs.YtldafmcioaijkaaGreatDoor
