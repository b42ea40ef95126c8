/- Runs of the law: 5 loops within one another. -/
import Derived.Test.YtldafmcioaijkaaGreatDoorLoopsC5
namespace Go.Proofs.YtldafmcioaijkaaGreatDoor
open Go Go.Ab
theorem loops_5_7 : runsW all5 3 [.nil 3090, .nil 10776] = true := by kernel_rfl
theorem loops_5_8 : runsW all5 3 [.nil 3090, .nil 10778] = true := by kernel_rfl
theorem loops_5_9 : runsW all5 3 [.nil 3090, .nil 10780] = true := by kernel_rfl
theorem loops_5_10 : runsW all5 3 [.nil 3090, .nil 10782] = true := by kernel_rfl
theorem loops_5_11 : runsW all5 3 [.nil 3090, .nil 10784] = true := by kernel_rfl
theorem loops_5_12 : runsW all5 3 [.nil 3090, .nil 10786] = true := by kernel_rfl
theorem loops_5_13 : runsW all5 3 [.nil 3090, .nil 10788] = true := by kernel_rfl
end Go.Proofs.YtldafmcioaijkaaGreatDoor
