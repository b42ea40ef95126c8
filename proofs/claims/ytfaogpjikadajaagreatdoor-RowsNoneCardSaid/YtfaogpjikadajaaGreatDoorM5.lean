/- Calls of the layer below, and what they come to. -/
import Derived.Test.YtfaogpjikadajaaGreatDoorAbS0
namespace Go.Proofs.YtfaogpjikadajaaGreatDoor
open Go Go.Ab
noncomputable def awk11 : Kn := ⟨39, [.agg [.int .i64 (.ofNat 2), .int .i64 (.ofNat 3), .sl 0 0 0 1 6, .sl 1 0 0 1 10]], [([.str 1 116, .sl 2 0 0 1 6, .int .i64 (.ofNat 1)], 0), ([.str 4 1630434339, .str 1 116, .sl 3 0 0 1 3, .bool true, .int .i64 (.ofNat 2)], 0), ([.str 1 97, .bool false, .bool true], 0), ([.int .i64 (.ofNat 0), .bool false], 0)], .bool true, []⟩
noncomputable def awk11Keep : List (Nat × Nat) := []
theorem awk11_ok : awk11.ok (cK []) gl0 12 awk11Keep = true := by kernel_rfl
theorem awk11_known : Known awk11 := known_of (keep := awk11Keep) known_nil awk11_ok
noncomputable def awk10 : Kn := ⟨77, [.agg [.int .i64 (.ofNat 2), .int .i64 (.ofNat 3), .sl 0 0 0 1 6, .sl 1 0 0 1 10], .agg [.int .u8 (.ofNat 6), .str 1 116, .str 1 105, .nil 1, .nil 1, .nil 1, .nil 1, .nil 1, .nil 1, .sl 2 0 0 1 3, .bool false]], [([.str 1 116, .sl 3 0 0 1 6, .int .i64 (.ofNat 1)], 0), ([.str 4 1630434339, .str 1 116, .sl 4 0 0 1 3, .bool true, .int .i64 (.ofNat 2)], 0), ([.str 1 97, .bool false], 0), ([.str 1 97, .bool false, .bool true], 0), ([.int .i64 (.ofNat 0), .bool false], 0)], .tup [.agg [.int .i64 (.ofNat 3), .int .i64 (.ofNat 4), .sl 5 0 0 1 6, .sl 6 0 0 2 10], .int .i64 (.ofNat 0)], [([.str 1 116, .sl 7 0 0 1 6, .int .i64 (.ofNat 1)], 0), ([.str 4 1630434339, .str 1 116, .sl 8 0 0 1 4, .bool true, .int .i64 (.ofNat 2), .str 1 105, .str 1 116, .sl 9 0 0 1 4, .bool false, .int .i64 (.ofNat 3)], 0), ([.str 1 97, .bool false, .bool true], 0), ([.int .i64 (.ofNat 0), .bool false], 0), ([.int .i64 (.ofNat 0), .bool false], 0)]⟩
noncomputable def awk10Keep : List (Nat × Nat) := [(57, 0), (59, 1), (61, 0), (63, 0), (84, 0)]
theorem awk10_ok : awk10.ok (cK [awk11]) gl0 12 awk10Keep = true := by kernel_rfl
theorem awk10_known : Known awk10 := known_of (keep := awk10Keep) (known_cons awk11_known known_nil) awk10_ok
noncomputable def awk12 : Kn := ⟨75, [.agg [.str 1 105, .str 1 116, .sl 0 0 0 1 4, .bool false, .int .i64 (.ofNat 3)], .agg [.int .i64 (.ofNat 5), .sl 1 0 0 1 6]], [([.int .i64 (.ofNat 0), .bool false], 0), ([.int .u8 (.ofNat 1), .int .i64 (.ofNat 7), .str 0 0], 0)], .tup [.sl 2 0 0 18 2, .int .i64 (.ofNat 0)], [([.int .u8 (.ofNat 2), .int .u8 (.ofNat 128), .int .u8 (.ofNat 0), .int .u8 (.ofNat 0), .int .u8 (.ofNat 0), .int .u8 (.ofNat 0), .int .u8 (.ofNat 0), .int .u8 (.ofNat 0), .int .u8 (.ofNat 7), .int .u8 (.ofNat 2), .int .u8 (.ofNat 128), .int .u8 (.ofNat 0), .int .u8 (.ofNat 0), .int .u8 (.ofNat 0), .int .u8 (.ofNat 0), .int .u8 (.ofNat 0), .int .u8 (.ofNat 0), .int .u8 (.ofNat 5)], 0)]⟩
noncomputable def awk12Keep : List (Nat × Nat) := [(35, 17)]
theorem awk12_ok : awk12.ok (cK [awk11, awk10]) gl0 12 awk12Keep = true := by kernel_rfl
theorem awk12_known : Known awk12 := known_of (keep := awk12Keep) (known_cons awk11_known (known_cons awk10_known known_nil)) awk12_ok
end Go.Proofs.YtfaogpjikadajaaGreatDoor
