/- Runs of the law: 2 loops within one another. -/
import Derived.Test.YtldafmcioaijkaaGreatDoorLoopsC2
namespace Go.Proofs.YtldafmcioaijkaaGreatDoor
open Go Go.Ab
theorem loops_2_10 : runsW all2 3 [.nil 3084, .nil 10782] = true := by kernel_rfl
theorem loops_2_11 : runsW all2 3 [.nil 3084, .nil 10784] = true := by kernel_rfl
theorem loops_2_12 : runsW all2 3 [.nil 3084, .nil 10786] = true := by kernel_rfl
theorem loops_2_13 : runsW all2 3 [.nil 3084, .nil 10788] = true := by kernel_rfl
theorem loops_2_14 : runsW all2 3 [.nil 3084, .nil 10790] = true := by kernel_rfl
theorem loops_2_15 : runsW all2 3 [.nil 3084, .nil 10792] = true := by kernel_rfl
theorem loops_2_16 : runsW all2 3 [.nil 3084, .nil 10794] = true := by kernel_rfl
theorem loops_2_17 : runsW all2 3 [.nil 3084, .nil 10796] = true := by kernel_rfl
theorem loops_2_18 : runsW all2 3 [.nil 3084, .nil 10798] = true := by kernel_rfl
theorem loops_2_19 : runsW all2 3 [.nil 3084, .nil 10800] = true := by kernel_rfl
theorem loops_2_20 : runsW all2 3 [.nil 3084, .nil 10802] = true := by kernel_rfl
end Go.Proofs.YtldafmcioaijkaaGreatDoor
