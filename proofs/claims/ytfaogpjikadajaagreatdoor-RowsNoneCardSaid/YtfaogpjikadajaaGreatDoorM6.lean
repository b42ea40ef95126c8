/- Calls of the layer below, and what they come to. -/
import Derived.Test.YtfaogpjikadajaaGreatDoorAbS0
namespace Go.Proofs.YtfaogpjikadajaaGreatDoor
open Go Go.Ab
noncomputable def awk15 : Kn := ⟨39, [.agg [.int .i64 (.ofNat 3), .int .i64 (.ofNat 4), .sl 0 0 0 1 6, .sl 1 0 0 2 10]], [([.str 1 116, .sl 2 0 0 1 6, .int .i64 (.ofNat 1)], 0), ([.str 4 1630434339, .str 1 116, .sl 3 0 0 1 4, .bool true, .int .i64 (.ofNat 2), .str 1 105, .str 1 116, .sl 4 0 0 1 4, .bool false, .int .i64 (.ofNat 3)], 0), ([.str 1 97, .bool false, .bool true], 0), ([.int .i64 (.ofNat 0), .bool false], 0), ([.int .i64 (.ofNat 0), .bool false], 0)], .bool true, []⟩
noncomputable def awk15Keep : List (Nat × Nat) := []
theorem awk15_ok : awk15.ok (cK []) gl0 12 awk15Keep = true := by kernel_rfl
theorem awk15_known : Known awk15 := known_of (keep := awk15Keep) known_nil awk15_ok
noncomputable def awk14 : Kn := ⟨77, [.agg [.int .i64 (.ofNat 3), .int .i64 (.ofNat 4), .sl 0 0 0 1 6, .sl 1 0 0 2 10], .agg [.int .u8 (.ofNat 7), .str 1 116, .str 0 0, .nil 1, .nil 1, .nil 1, .nil 1, .nil 1, .nil 1, .nil 1, .bool false]], [([.str 1 116, .sl 2 0 0 1 6, .int .i64 (.ofNat 1)], 0), ([.str 4 1630434339, .str 1 116, .sl 3 0 0 1 4, .bool true, .int .i64 (.ofNat 2), .str 1 105, .str 1 116, .sl 4 0 0 1 4, .bool false, .int .i64 (.ofNat 3)], 0), ([.str 1 97, .bool false, .bool true], 0), ([.int .i64 (.ofNat 0), .bool false], 0), ([.int .i64 (.ofNat 0), .bool false], 0)], .tup [.agg [.int .i64 (.ofNat 4), .int .i64 (.ofNat 4), .sl 5 0 0 0 6, .sl 6 0 0 0 10], .int .i64 (.ofNat 0)], [([.str 0 0, .nil 1, .int .i64 (.ofNat 0)], 0), ([.str 0 0, .str 0 0, .nil 1, .bool false, .int .i64 (.ofNat 0), .str 0 0, .str 0 0, .nil 1, .bool false, .int .i64 (.ofNat 0)], 0)]⟩
noncomputable def awk14Keep : List (Nat × Nat) := [(40, 0), (42, 0)]
theorem awk14_ok : awk14.ok (cK [awk15]) gl0 12 awk14Keep = true := by kernel_rfl
theorem awk14_known : Known awk14 := known_of (keep := awk14Keep) (known_cons awk15_known known_nil) awk14_ok
noncomputable def awk16 : Kn := ⟨39, [.agg [.int .i64 (.ofNat 4), .int .i64 (.ofNat 4), .sl 0 0 0 0 6, .sl 1 0 0 0 10]], [([.str 0 0, .nil 1, .int .i64 (.ofNat 0)], 0), ([.str 0 0, .str 0 0, .nil 1, .bool false, .int .i64 (.ofNat 0), .str 0 0, .str 0 0, .nil 1, .bool false, .int .i64 (.ofNat 0)], 0)], .bool true, []⟩
noncomputable def awk16Keep : List (Nat × Nat) := []
theorem awk16_ok : awk16.ok (cK [awk15, awk14]) gl0 12 awk16Keep = true := by kernel_rfl
theorem awk16_known : Known awk16 := known_of (keep := awk16Keep) (known_cons awk15_known (known_cons awk14_known known_nil)) awk16_ok
end Go.Proofs.YtfaogpjikadajaaGreatDoor
