/- Runs of the law, by what is left of its first number by 10. -/
import Derived.Test.YtldafmcioaijkaaGreatDoorAbS1
namespace Go.Proofs.YtldafmcioaijkaaGreatDoor
open Go Go.Ab
theorem ints_0_true : runs 5 [.nil 5130, .bool true] = true := by kernel_rfl
theorem ints_1_true : runs 5 [.nil 5132, .bool true] = true := by kernel_rfl
theorem ints_2_true : runs 5 [.nil 5134, .bool true] = true := by kernel_rfl
theorem ints_3_true : runs 5 [.nil 5136, .bool true] = true := by kernel_rfl
theorem ints_4_true : runs 5 [.nil 5138, .bool true] = true := by kernel_rfl
end Go.Proofs.YtldafmcioaijkaaGreatDoor
