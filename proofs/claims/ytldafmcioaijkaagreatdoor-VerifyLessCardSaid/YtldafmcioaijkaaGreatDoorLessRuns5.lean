/- Runs of the law, by what is left of its numbers by 4, 4 and 3. -/
import Derived.Test.YtldafmcioaijkaaGreatDoorAbS1
namespace Go.Proofs.YtldafmcioaijkaaGreatDoor
open Go Go.Ab
theorem less_1_2_2 : runs 6 [.nil 2060, .nil 2062, .nil 1550] = true := by kernel_rfl
theorem less_1_3_0 : runs 6 [.nil 2060, .nil 2064, .nil 1546] = true := by kernel_rfl
theorem less_1_3_1 : runs 6 [.nil 2060, .nil 2064, .nil 1548] = true := by kernel_rfl
theorem less_1_3_2 : runs 6 [.nil 2060, .nil 2064, .nil 1550] = true := by kernel_rfl
end Go.Proofs.YtldafmcioaijkaaGreatDoor
