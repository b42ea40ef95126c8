/- Calls of the layer below, and what they come to. -/
import Derived.Test.YtfaogpjikadajaaGreatDoorAbS0
namespace Go.Proofs.YtfaogpjikadajaaGreatDoor
open Go Go.Ab
noncomputable def awk4 : Kn := ⟨39, [.agg [.int .i64 (.ofNat 1), .int .i64 (.ofNat 1), .nil 1, .nil 1]], [], .bool true, []⟩
noncomputable def awk4Keep : List (Nat × Nat) := []
theorem awk4_ok : awk4.ok (cK []) gl0 12 awk4Keep = true := by kernel_rfl
theorem awk4_known : Known awk4 := known_of (keep := awk4Keep) known_nil awk4_ok
noncomputable def awk3 : Kn := ⟨77, [.agg [.int .i64 (.ofNat 1), .int .i64 (.ofNat 1), .nil 1, .nil 1], .agg [.int .u8 (.ofNat 5), .str 1 116, .str 0 0, .nil 1, .nil 1, .nil 1, .nil 1, .nil 1, .sl 0 0 0 1 3, .nil 1, .bool false]], [([.str 1 97, .bool false, .bool true], 0)], .tup [.agg [.int .i64 (.ofNat 2), .int .i64 (.ofNat 3), .sl 1 0 0 1 6, .sl 2 0 0 1 10], .int .i64 (.ofNat 0)], [([.str 1 116, .sl 3 0 0 1 6, .int .i64 (.ofNat 1)], 0), ([.str 4 1630434339, .str 1 116, .sl 4 0 0 1 3, .bool true, .int .i64 (.ofNat 2)], 0), ([.str 1 97, .bool false, .bool true], 0), ([.int .i64 (.ofNat 0), .bool false], 0)]⟩
noncomputable def awk3Keep : List (Nat × Nat) := [(58, 0), (62, 0), (56, 0), (60, 0)]
theorem awk3_ok : awk3.ok (cK [awk4]) gl0 12 awk3Keep = true := by kernel_rfl
theorem awk3_known : Known awk3 := known_of (keep := awk3Keep) (known_cons awk4_known known_nil) awk3_ok
noncomputable def awk5 : Kn := ⟨56, [.int .i64 (.ofNat 5)], [], .sl 0 0 0 9 2, [([.int .u8 (.ofNat 2), .int .u8 (.ofNat 128), .int .u8 (.ofNat 0), .int .u8 (.ofNat 0), .int .u8 (.ofNat 0), .int .u8 (.ofNat 0), .int .u8 (.ofNat 0), .int .u8 (.ofNat 0), .int .u8 (.ofNat 5)], 0)]⟩
noncomputable def awk5Keep : List (Nat × Nat) := [(21, 8)]
theorem awk5_ok : awk5.ok (cK [awk4, awk3]) gl0 12 awk5Keep = true := by kernel_rfl
theorem awk5_known : Known awk5 := known_of (keep := awk5Keep) (known_cons awk4_known (known_cons awk3_known known_nil)) awk5_ok
noncomputable def awk6 : Kn := ⟨67, [.sl 0 0 0 1 3], [([.int .u8 (.ofNat 1), .int .i64 (.ofNat 7), .str 0 0], 0)], .tup [.sl 1 0 0 3 2, .int .i64 (.ofNat 0)], [([.int .u8 (.ofNat 1), .int .u8 (.ofNat 1), .int .u8 (.ofNat 7)], 0)]⟩
noncomputable def awk6Keep : List (Nat × Nat) := [(16, 2)]
theorem awk6_ok : awk6.ok (cK [awk4, awk3, awk5]) gl0 12 awk6Keep = true := by kernel_rfl
theorem awk6_known : Known awk6 := known_of (keep := awk6Keep) (known_cons awk4_known (known_cons awk3_known (known_cons awk5_known known_nil))) awk6_ok
noncomputable def awk7 : Kn := ⟨75, [.agg [.str 4 1630434339, .str 1 116, .sl 0 0 0 1 4, .bool true, .int .i64 (.ofNat 2)], .agg [.int .i64 (.ofNat 5), .sl 1 0 0 1 3]], [([.int .i64 (.ofNat 0), .bool false], 0), ([.int .u8 (.ofNat 1), .int .i64 (.ofNat 7), .str 0 0], 0)], .tup [.sl 2 0 0 18 2, .int .i64 (.ofNat 0)], [([.int .u8 (.ofNat 2), .int .u8 (.ofNat 128), .int .u8 (.ofNat 0), .int .u8 (.ofNat 0), .int .u8 (.ofNat 0), .int .u8 (.ofNat 0), .int .u8 (.ofNat 0), .int .u8 (.ofNat 0), .int .u8 (.ofNat 7), .int .u8 (.ofNat 2), .int .u8 (.ofNat 128), .int .u8 (.ofNat 0), .int .u8 (.ofNat 0), .int .u8 (.ofNat 0), .int .u8 (.ofNat 0), .int .u8 (.ofNat 0), .int .u8 (.ofNat 0), .int .u8 (.ofNat 5)], 0)]⟩
noncomputable def awk7Keep : List (Nat × Nat) := [(35, 17)]
theorem awk7_ok : awk7.ok (cK [awk4, awk3, awk5, awk6]) gl0 12 awk7Keep = true := by kernel_rfl
theorem awk7_known : Known awk7 := known_of (keep := awk7Keep) (known_cons awk4_known (known_cons awk3_known (known_cons awk5_known (known_cons awk6_known known_nil)))) awk7_ok
noncomputable def awk8 : Kn := ⟨56, [.int .i64 (.ofNat 6)], [], .sl 0 0 0 9 2, [([.int .u8 (.ofNat 2), .int .u8 (.ofNat 128), .int .u8 (.ofNat 0), .int .u8 (.ofNat 0), .int .u8 (.ofNat 0), .int .u8 (.ofNat 0), .int .u8 (.ofNat 0), .int .u8 (.ofNat 0), .int .u8 (.ofNat 6)], 0)]⟩
noncomputable def awk8Keep : List (Nat × Nat) := [(21, 8)]
theorem awk8_ok : awk8.ok (cK [awk4, awk3, awk5, awk6, awk7]) gl0 12 awk8Keep = true := by kernel_rfl
theorem awk8_known : Known awk8 := known_of (keep := awk8Keep) (known_cons awk4_known (known_cons awk3_known (known_cons awk5_known (known_cons awk6_known (known_cons awk7_known known_nil))))) awk8_ok
noncomputable def awk9 : Kn := ⟨75, [.agg [.str 4 1630434339, .str 1 116, .sl 0 0 0 1 4, .bool true, .int .i64 (.ofNat 2)], .agg [.int .i64 (.ofNat 6), .sl 1 0 0 1 3]], [([.int .i64 (.ofNat 0), .bool false], 0), ([.int .u8 (.ofNat 1), .int .i64 (.ofNat 7), .str 0 0], 0)], .tup [.sl 2 0 0 18 2, .int .i64 (.ofNat 0)], [([.int .u8 (.ofNat 2), .int .u8 (.ofNat 128), .int .u8 (.ofNat 0), .int .u8 (.ofNat 0), .int .u8 (.ofNat 0), .int .u8 (.ofNat 0), .int .u8 (.ofNat 0), .int .u8 (.ofNat 0), .int .u8 (.ofNat 7), .int .u8 (.ofNat 2), .int .u8 (.ofNat 128), .int .u8 (.ofNat 0), .int .u8 (.ofNat 0), .int .u8 (.ofNat 0), .int .u8 (.ofNat 0), .int .u8 (.ofNat 0), .int .u8 (.ofNat 0), .int .u8 (.ofNat 6)], 0)]⟩
noncomputable def awk9Keep : List (Nat × Nat) := [(35, 17)]
theorem awk9_ok : awk9.ok (cK [awk4, awk3, awk5, awk6, awk7, awk8]) gl0 12 awk9Keep = true := by kernel_rfl
theorem awk9_known : Known awk9 := known_of (keep := awk9Keep) (known_cons awk4_known (known_cons awk3_known (known_cons awk5_known (known_cons awk6_known (known_cons awk7_known (known_cons awk8_known known_nil)))))) awk9_ok
end Go.Proofs.YtfaogpjikadajaaGreatDoor
