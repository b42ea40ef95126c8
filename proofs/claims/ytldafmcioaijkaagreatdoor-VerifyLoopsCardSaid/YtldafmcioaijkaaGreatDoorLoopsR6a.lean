/- Runs of the law: 6 loops within one another. -/
import Derived.Test.YtldafmcioaijkaaGreatDoorLoopsC6
namespace Go.Proofs.YtldafmcioaijkaaGreatDoor
open Go Go.Ab
theorem loops_6_0 : runsW all6 3 [.nil 3092, .nil 10762] = true := by kernel_rfl
theorem loops_6_1 : runsW all6 3 [.nil 3092, .nil 10764] = true := by kernel_rfl
theorem loops_6_2 : runsW all6 3 [.nil 3092, .nil 10766] = true := by kernel_rfl
theorem loops_6_3 : runsW all6 3 [.nil 3092, .nil 10768] = true := by kernel_rfl
theorem loops_6_4 : runsW all6 3 [.nil 3092, .nil 10770] = true := by kernel_rfl
theorem loops_6_5 : runsW all6 3 [.nil 3092, .nil 10772] = true := by kernel_rfl
theorem loops_6_6 : runsW all6 3 [.nil 3092, .nil 10774] = true := by kernel_rfl
end Go.Proofs.YtldafmcioaijkaaGreatDoor
