/- Runs of the law, by what is left of its first number by 10. -/
import Derived.Test.YtldafmcioaijkaaGreatDoorAbS1
namespace Go.Proofs.YtldafmcioaijkaaGreatDoor
open Go Go.Ab
theorem ints_0_false : runs 5 [.nil 5130, .bool false] = true := by kernel_rfl
theorem ints_1_false : runs 5 [.nil 5132, .bool false] = true := by kernel_rfl
theorem ints_2_false : runs 5 [.nil 5134, .bool false] = true := by kernel_rfl
theorem ints_3_false : runs 5 [.nil 5136, .bool false] = true := by kernel_rfl
theorem ints_4_false : runs 5 [.nil 5138, .bool false] = true := by kernel_rfl
end Go.Proofs.YtldafmcioaijkaaGreatDoor
