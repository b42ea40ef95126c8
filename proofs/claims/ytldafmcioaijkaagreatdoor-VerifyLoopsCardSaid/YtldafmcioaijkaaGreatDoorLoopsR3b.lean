/- Runs of the law: 3 loops within one another. -/
import Derived.Test.YtldafmcioaijkaaGreatDoorLoopsC3
namespace Go.Proofs.YtldafmcioaijkaaGreatDoor
open Go Go.Ab
theorem loops_3_10 : runsW all3 3 [.nil 3086, .nil 10782] = true := by kernel_rfl
theorem loops_3_11 : runsW all3 3 [.nil 3086, .nil 10784] = true := by kernel_rfl
theorem loops_3_12 : runsW all3 3 [.nil 3086, .nil 10786] = true := by kernel_rfl
theorem loops_3_13 : runsW all3 3 [.nil 3086, .nil 10788] = true := by kernel_rfl
theorem loops_3_14 : runsW all3 3 [.nil 3086, .nil 10790] = true := by kernel_rfl
theorem loops_3_15 : runsW all3 3 [.nil 3086, .nil 10792] = true := by kernel_rfl
theorem loops_3_16 : runsW all3 3 [.nil 3086, .nil 10794] = true := by kernel_rfl
theorem loops_3_17 : runsW all3 3 [.nil 3086, .nil 10796] = true := by kernel_rfl
theorem loops_3_18 : runsW all3 3 [.nil 3086, .nil 10798] = true := by kernel_rfl
theorem loops_3_19 : runsW all3 3 [.nil 3086, .nil 10800] = true := by kernel_rfl
theorem loops_3_20 : runsW all3 3 [.nil 3086, .nil 10802] = true := by kernel_rfl
end Go.Proofs.YtldafmcioaijkaaGreatDoor
