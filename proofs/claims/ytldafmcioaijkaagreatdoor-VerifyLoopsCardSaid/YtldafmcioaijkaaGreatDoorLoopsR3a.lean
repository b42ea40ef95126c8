/- Runs of the law: 3 loops within one another. -/
import Derived.Test.YtldafmcioaijkaaGreatDoorLoopsC3
namespace Go.Proofs.YtldafmcioaijkaaGreatDoor
open Go Go.Ab
theorem loops_3_0 : runsW all3 3 [.nil 3086, .nil 10762] = true := by kernel_rfl
theorem loops_3_1 : runsW all3 3 [.nil 3086, .nil 10764] = true := by kernel_rfl
theorem loops_3_2 : runsW all3 3 [.nil 3086, .nil 10766] = true := by kernel_rfl
theorem loops_3_3 : runsW all3 3 [.nil 3086, .nil 10768] = true := by kernel_rfl
theorem loops_3_4 : runsW all3 3 [.nil 3086, .nil 10770] = true := by kernel_rfl
theorem loops_3_5 : runsW all3 3 [.nil 3086, .nil 10772] = true := by kernel_rfl
theorem loops_3_6 : runsW all3 3 [.nil 3086, .nil 10774] = true := by kernel_rfl
theorem loops_3_7 : runsW all3 3 [.nil 3086, .nil 10776] = true := by kernel_rfl
theorem loops_3_8 : runsW all3 3 [.nil 3086, .nil 10778] = true := by kernel_rfl
theorem loops_3_9 : runsW all3 3 [.nil 3086, .nil 10780] = true := by kernel_rfl
end Go.Proofs.YtldafmcioaijkaaGreatDoor
