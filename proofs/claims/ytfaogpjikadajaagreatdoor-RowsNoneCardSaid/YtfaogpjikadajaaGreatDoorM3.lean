/- Calls of the layer below, and what they come to. -/
import Derived.Test.YtfaogpjikadajaaGreatDoorAbS0
namespace Go.Proofs.YtfaogpjikadajaaGreatDoor
open Go Go.Ab
noncomputable def awk13 : Kn := ⟨65, [.str 12 35939425723855900871595356772], [], .agg [.int .u8 (.ofNat 7), .str 1 116, .str 0 0, .nil 1, .nil 1, .nil 1, .nil 1, .nil 1, .nil 1, .nil 1, .bool false], []⟩
noncomputable def awk13Keep : List (Nat × Nat) := []
theorem awk13_ok : awk13.ok (cK []) gl0 12 awk13Keep = true := by kernel_rfl
theorem awk13_known : Known awk13 := known_of (keep := awk13Keep) known_nil awk13_ok
end Go.Proofs.YtfaogpjikadajaaGreatDoor
