/- Runs of the law, by what is left of its first number by 10. -/
import Derived.Test.YtldafmcioaijkaaGreatDoorAbS1
namespace Go.Proofs.YtldafmcioaijkaaGreatDoor
open Go Go.Ab
theorem ints_5_true : runs 5 [.nil 5140, .bool true] = true := by kernel_rfl
theorem ints_6_true : runs 5 [.nil 5142, .bool true] = true := by kernel_rfl
theorem ints_7_true : runs 5 [.nil 5144, .bool true] = true := by kernel_rfl
theorem ints_8_true : runs 5 [.nil 5146, .bool true] = true := by kernel_rfl
theorem ints_9_true : runs 5 [.nil 5148, .bool true] = true := by kernel_rfl
end Go.Proofs.YtldafmcioaijkaaGreatDoor
