/- Runs of the law: 4 loops within one another. -/
import Derived.Test.YtldafmcioaijkaaGreatDoorLoopsC4
namespace Go.Proofs.YtldafmcioaijkaaGreatDoor
open Go Go.Ab
theorem loops_4_14 : runsW all4 3 [.nil 3088, .nil 10790] = true := by kernel_rfl
theorem loops_4_15 : runsW all4 3 [.nil 3088, .nil 10792] = true := by kernel_rfl
theorem loops_4_16 : runsW all4 3 [.nil 3088, .nil 10794] = true := by kernel_rfl
theorem loops_4_17 : runsW all4 3 [.nil 3088, .nil 10796] = true := by kernel_rfl
theorem loops_4_18 : runsW all4 3 [.nil 3088, .nil 10798] = true := by kernel_rfl
theorem loops_4_19 : runsW all4 3 [.nil 3088, .nil 10800] = true := by kernel_rfl
theorem loops_4_20 : runsW all4 3 [.nil 3088, .nil 10802] = true := by kernel_rfl
end Go.Proofs.YtldafmcioaijkaaGreatDoor
