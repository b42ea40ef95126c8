/- Runs of the law: 4 loops within one another. -/
import Derived.Test.YtldafmcioaijkaaGreatDoorLoopsC4
namespace Go.Proofs.YtldafmcioaijkaaGreatDoor
open Go Go.Ab
theorem loops_4_7 : runsW all4 3 [.nil 3088, .nil 10776] = true := by kernel_rfl
theorem loops_4_8 : runsW all4 3 [.nil 3088, .nil 10778] = true := by kernel_rfl
theorem loops_4_9 : runsW all4 3 [.nil 3088, .nil 10780] = true := by kernel_rfl
theorem loops_4_10 : runsW all4 3 [.nil 3088, .nil 10782] = true := by kernel_rfl
theorem loops_4_11 : runsW all4 3 [.nil 3088, .nil 10784] = true := by kernel_rfl
theorem loops_4_12 : runsW all4 3 [.nil 3088, .nil 10786] = true := by kernel_rfl
theorem loops_4_13 : runsW all4 3 [.nil 3088, .nil 10788] = true := by kernel_rfl
end Go.Proofs.YtldafmcioaijkaaGreatDoor
