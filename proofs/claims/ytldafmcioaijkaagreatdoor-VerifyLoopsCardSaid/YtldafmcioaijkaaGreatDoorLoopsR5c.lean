/- Runs of the law: 5 loops within one another. -/
import Derived.Test.YtldafmcioaijkaaGreatDoorLoopsC5
namespace Go.Proofs.YtldafmcioaijkaaGreatDoor
open Go Go.Ab
theorem loops_5_14 : runsW all5 3 [.nil 3090, .nil 10790] = true := by kernel_rfl
theorem loops_5_15 : runsW all5 3 [.nil 3090, .nil 10792] = true := by kernel_rfl
theorem loops_5_16 : runsW all5 3 [.nil 3090, .nil 10794] = true := by kernel_rfl
theorem loops_5_17 : runsW all5 3 [.nil 3090, .nil 10796] = true := by kernel_rfl
theorem loops_5_18 : runsW all5 3 [.nil 3090, .nil 10798] = true := by kernel_rfl
theorem loops_5_19 : runsW all5 3 [.nil 3090, .nil 10800] = true := by kernel_rfl
theorem loops_5_20 : runsW all5 3 [.nil 3090, .nil 10802] = true := by kernel_rfl
end Go.Proofs.YtldafmcioaijkaaGreatDoor
