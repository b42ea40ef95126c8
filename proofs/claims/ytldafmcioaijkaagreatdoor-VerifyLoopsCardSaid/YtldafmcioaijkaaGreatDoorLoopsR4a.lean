/- Runs of the law: 4 loops within one another. -/
import Derived.Test.YtldafmcioaijkaaGreatDoorLoopsC4
namespace Go.Proofs.YtldafmcioaijkaaGreatDoor
open Go Go.Ab
theorem loops_4_0 : runsW all4 3 [.nil 3088, .nil 10762] = true := by kernel_rfl
theorem loops_4_1 : runsW all4 3 [.nil 3088, .nil 10764] = true := by kernel_rfl
theorem loops_4_2 : runsW all4 3 [.nil 3088, .nil 10766] = true := by kernel_rfl
theorem loops_4_3 : runsW all4 3 [.nil 3088, .nil 10768] = true := by kernel_rfl
theorem loops_4_4 : runsW all4 3 [.nil 3088, .nil 10770] = true := by kernel_rfl
theorem loops_4_5 : runsW all4 3 [.nil 3088, .nil 10772] = true := by kernel_rfl
theorem loops_4_6 : runsW all4 3 [.nil 3088, .nil 10774] = true := by kernel_rfl
end Go.Proofs.YtldafmcioaijkaaGreatDoor
