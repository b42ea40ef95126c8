/- The law's runs, by what is left of the first number by 5. -/
import Derived.Test.YtldafmcioaijkaaGreatDoorAbS1
namespace Go.Proofs.YtldafmcioaijkaaGreatDoor
open Go Go.Ab
theorem feeds_0_false : runs 4 [.nil 2570, .bool false] = true := by kernel_rfl
theorem feeds_1_false : runs 4 [.nil 2572, .bool false] = true := by kernel_rfl
theorem feeds_2_false : runs 4 [.nil 2574, .bool false] = true := by kernel_rfl
theorem feeds_3_false : runs 4 [.nil 2576, .bool false] = true := by kernel_rfl
theorem feeds_4_false : runs 4 [.nil 2578, .bool false] = true := by kernel_rfl
end Go.Proofs.YtldafmcioaijkaaGreatDoor
