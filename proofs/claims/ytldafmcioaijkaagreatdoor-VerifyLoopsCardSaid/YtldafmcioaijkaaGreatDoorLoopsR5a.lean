/- Runs of the law: 5 loops within one another. -/
import Derived.Test.YtldafmcioaijkaaGreatDoorLoopsC5
namespace Go.Proofs.YtldafmcioaijkaaGreatDoor
open Go Go.Ab
theorem loops_5_0 : runsW all5 3 [.nil 3090, .nil 10762] = true := by kernel_rfl
theorem loops_5_1 : runsW all5 3 [.nil 3090, .nil 10764] = true := by kernel_rfl
theorem loops_5_2 : runsW all5 3 [.nil 3090, .nil 10766] = true := by kernel_rfl
theorem loops_5_3 : runsW all5 3 [.nil 3090, .nil 10768] = true := by kernel_rfl
theorem loops_5_4 : runsW all5 3 [.nil 3090, .nil 10770] = true := by kernel_rfl
theorem loops_5_5 : runsW all5 3 [.nil 3090, .nil 10772] = true := by kernel_rfl
theorem loops_5_6 : runsW all5 3 [.nil 3090, .nil 10774] = true := by kernel_rfl
end Go.Proofs.YtldafmcioaijkaaGreatDoor
