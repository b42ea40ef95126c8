/- Runs of the law: 2 loops within one another. -/
import Derived.Test.YtldafmcioaijkaaGreatDoorLoopsC2
namespace Go.Proofs.YtldafmcioaijkaaGreatDoor
open Go Go.Ab
theorem loops_2_0 : runsW all2 3 [.nil 3084, .nil 10762] = true := by kernel_rfl
theorem loops_2_1 : runsW all2 3 [.nil 3084, .nil 10764] = true := by kernel_rfl
theorem loops_2_2 : runsW all2 3 [.nil 3084, .nil 10766] = true := by kernel_rfl
theorem loops_2_3 : runsW all2 3 [.nil 3084, .nil 10768] = true := by kernel_rfl
theorem loops_2_4 : runsW all2 3 [.nil 3084, .nil 10770] = true := by kernel_rfl
theorem loops_2_5 : runsW all2 3 [.nil 3084, .nil 10772] = true := by kernel_rfl
theorem loops_2_6 : runsW all2 3 [.nil 3084, .nil 10774] = true := by kernel_rfl
theorem loops_2_7 : runsW all2 3 [.nil 3084, .nil 10776] = true := by kernel_rfl
theorem loops_2_8 : runsW all2 3 [.nil 3084, .nil 10778] = true := by kernel_rfl
theorem loops_2_9 : runsW all2 3 [.nil 3084, .nil 10780] = true := by kernel_rfl
end Go.Proofs.YtldafmcioaijkaaGreatDoor
