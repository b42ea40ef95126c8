/- Runs of the law: 6 loops within one another. -/
import Derived.Test.YtldafmcioaijkaaGreatDoorLoopsC6
namespace Go.Proofs.YtldafmcioaijkaaGreatDoor
open Go Go.Ab
theorem loops_6_7 : runsW all6 3 [.nil 3092, .nil 10776] = true := by kernel_rfl
theorem loops_6_8 : runsW all6 3 [.nil 3092, .nil 10778] = true := by kernel_rfl
theorem loops_6_9 : runsW all6 3 [.nil 3092, .nil 10780] = true := by kernel_rfl
theorem loops_6_10 : runsW all6 3 [.nil 3092, .nil 10782] = true := by kernel_rfl
theorem loops_6_11 : runsW all6 3 [.nil 3092, .nil 10784] = true := by kernel_rfl
theorem loops_6_12 : runsW all6 3 [.nil 3092, .nil 10786] = true := by kernel_rfl
theorem loops_6_13 : runsW all6 3 [.nil 3092, .nil 10788] = true := by kernel_rfl
end Go.Proofs.YtldafmcioaijkaaGreatDoor
