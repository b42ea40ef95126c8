/- Runs of the law, by what is left of its first number by 10. -/
import Derived.Test.YtldafmcioaijkaaGreatDoorAbS1
namespace Go.Proofs.YtldafmcioaijkaaGreatDoor
open Go Go.Ab
theorem ints_5_false : runs 5 [.nil 5140, .bool false] = true := by kernel_rfl
theorem ints_6_false : runs 5 [.nil 5142, .bool false] = true := by kernel_rfl
theorem ints_7_false : runs 5 [.nil 5144, .bool false] = true := by kernel_rfl
theorem ints_8_false : runs 5 [.nil 5146, .bool false] = true := by kernel_rfl
theorem ints_9_false : runs 5 [.nil 5148, .bool false] = true := by kernel_rfl
end Go.Proofs.YtldafmcioaijkaaGreatDoor
