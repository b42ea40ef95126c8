/- Runs of the law: 1 loops within one another. -/
import Derived.Test.YtldafmcioaijkaaGreatDoorLoopsC1
namespace Go.Proofs.YtldafmcioaijkaaGreatDoor
open Go Go.Ab
theorem loops_1_10 : runsW all1 3 [.nil 3082, .nil 10782] = true := by kernel_rfl
theorem loops_1_11 : runsW all1 3 [.nil 3082, .nil 10784] = true := by kernel_rfl
theorem loops_1_12 : runsW all1 3 [.nil 3082, .nil 10786] = true := by kernel_rfl
theorem loops_1_13 : runsW all1 3 [.nil 3082, .nil 10788] = true := by kernel_rfl
theorem loops_1_14 : runsW all1 3 [.nil 3082, .nil 10790] = true := by kernel_rfl
theorem loops_1_15 : runsW all1 3 [.nil 3082, .nil 10792] = true := by kernel_rfl
theorem loops_1_16 : runsW all1 3 [.nil 3082, .nil 10794] = true := by kernel_rfl
theorem loops_1_17 : runsW all1 3 [.nil 3082, .nil 10796] = true := by kernel_rfl
theorem loops_1_18 : runsW all1 3 [.nil 3082, .nil 10798] = true := by kernel_rfl
theorem loops_1_19 : runsW all1 3 [.nil 3082, .nil 10800] = true := by kernel_rfl
theorem loops_1_20 : runsW all1 3 [.nil 3082, .nil 10802] = true := by kernel_rfl
end Go.Proofs.YtldafmcioaijkaaGreatDoor
