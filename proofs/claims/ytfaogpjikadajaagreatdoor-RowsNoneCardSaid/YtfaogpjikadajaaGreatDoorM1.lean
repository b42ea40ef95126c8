/- Calls of the layer below, and what they come to. -/
import Derived.Test.YtfaogpjikadajaaGreatDoorAbS0
namespace Go.Proofs.YtfaogpjikadajaaGreatDoor
open Go Go.Ab
noncomputable def awk1 : Kn := ⟨65, [.str 25 259848932750943407145388352234496210730202960832319528989283], [], .agg [.int .u8 (.ofNat 5), .str 1 116, .str 0 0, .nil 1, .nil 1, .nil 1, .nil 1, .nil 1, .sl 0 0 0 1 3, .nil 1, .bool false], [([.str 1 97, .bool false, .bool true], 0)]⟩
noncomputable def awk1Keep : List (Nat × Nat) := [(69, 0)]
theorem awk1_ok : awk1.ok (cK []) gl0 12 awk1Keep = true := by kernel_rfl
theorem awk1_known : Known awk1 := known_of (keep := awk1Keep) known_nil awk1_ok
end Go.Proofs.YtfaogpjikadajaaGreatDoor
