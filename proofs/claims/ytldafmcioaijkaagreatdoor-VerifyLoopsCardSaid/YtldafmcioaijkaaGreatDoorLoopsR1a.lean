/- Runs of the law: 1 loops within one another. -/
import Derived.Test.YtldafmcioaijkaaGreatDoorLoopsC1
namespace Go.Proofs.YtldafmcioaijkaaGreatDoor
open Go Go.Ab
theorem loops_1_0 : runsW all1 3 [.nil 3082, .nil 10762] = true := by kernel_rfl
theorem loops_1_1 : runsW all1 3 [.nil 3082, .nil 10764] = true := by kernel_rfl
theorem loops_1_2 : runsW all1 3 [.nil 3082, .nil 10766] = true := by kernel_rfl
theorem loops_1_3 : runsW all1 3 [.nil 3082, .nil 10768] = true := by kernel_rfl
theorem loops_1_4 : runsW all1 3 [.nil 3082, .nil 10770] = true := by kernel_rfl
theorem loops_1_5 : runsW all1 3 [.nil 3082, .nil 10772] = true := by kernel_rfl
theorem loops_1_6 : runsW all1 3 [.nil 3082, .nil 10774] = true := by kernel_rfl
theorem loops_1_7 : runsW all1 3 [.nil 3082, .nil 10776] = true := by kernel_rfl
theorem loops_1_8 : runsW all1 3 [.nil 3082, .nil 10778] = true := by kernel_rfl
theorem loops_1_9 : runsW all1 3 [.nil 3082, .nil 10780] = true := by kernel_rfl
end Go.Proofs.YtldafmcioaijkaaGreatDoor
