/- Calls of the layer below, and what they come to. -/
import Derived.Test.YtfaogpjikadajaaGreatDoorAbS0
namespace Go.Proofs.YtfaogpjikadajaaGreatDoor
open Go Go.Ab
noncomputable def awk2 : Kn := ⟨65, [.str 23 3963370477469950698240014254403544237438051304578839139], [], .agg [.int .u8 (.ofNat 6), .str 1 116, .str 1 105, .nil 1, .nil 1, .nil 1, .nil 1, .nil 1, .nil 1, .sl 0 0 0 1 3, .bool false], [([.str 1 97, .bool false], 0)]⟩
noncomputable def awk2Keep : List (Nat × Nat) := [(78, 0)]
theorem awk2_ok : awk2.ok (cK []) gl0 12 awk2Keep = true := by kernel_rfl
theorem awk2_known : Known awk2 := known_of (keep := awk2Keep) known_nil awk2_ok
end Go.Proofs.YtfaogpjikadajaaGreatDoor
